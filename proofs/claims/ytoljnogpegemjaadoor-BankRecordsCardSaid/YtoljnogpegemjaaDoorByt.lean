/- Bytes: rows of them in memory, sources, slices of the call's own (nil let in), as strings; make, append. No condition. -/
import Derived.Test.YtoljnogpegemjaaDoorChecked
import Derived.Test.YtoljnogpegemjaaDoorBase
import Derived.Maps.AppendAt
import Derived.Deep.AppendLies
import Derived.Deep.OwnRows
import Derived.RegionTactic
import Derived.OwnWalk
import Derived.Laws.OwnMore
import Derived.Laws.CopyOwn
import Derived.Laws.BytesArg
import Derived.WalkSpells
namespace Go.Proofs.YtoljnogpegemjaaDoor
open Go.RowKit

def row8 (b : List Int) (sp : List Value) : Array Value := (b.map (Value.int .u8) ++ sp).toArray
/-- n bytes lie behind the address sa (whatever it is where there are none). -/
structure Src (w : World) (sa : Option Addr) (n : Nat) (xs : List Int) : Prop where
  len : xs.length = n
  cell : ∀ i, i < n → ∃ a, sa = some a ∧ w.cell? (a.add i) = some (.int .u8 (xs.getD i 0))

theorem row8_get (b : List Int) (sp : List Value) (i : Nat) (h : i < b.length) : (row8 b sp)[i]? = some (.int .u8 (b.getD i 0)) := by
  unfold row8
  rw [List.getElem?_toArray, List.getElem?_append_left (by simpa using h)]
  simp [List.getD, h]
theorem row8_set (b : List Int) (sp : List Value) (i : Nat) (h : i < b.length) (x : Int) : (row8 b sp).setIfInBounds i (.int .u8 x) = row8 (b.set i x) sp := by
  unfold row8
  rw [List.setIfInBounds_toArray, List.set_append_left _ _ (by simpa using h), List.map_set]

theorem Kept.cellX {T : Nat → Prop} {a b : World} (h : Kept T a b) {x : Addr} {v : Value} (hx : a.cell? x = some v) (ht : ¬ T x.block) : b.cell? x = some v :=
  (World.cell?_of_block (h.block x.block (World.block_lt_of_cell? a x hx) ht)).trans hx
theorem block_add (a : Addr) (n : Nat) : (a.add n).block = a.block := by unfold Addr.add; split <;> rfl

theorem size_u8 : (Tryd.prog.info? 5).map (·.size) = some 1 := by kernel_rfl

/-- v is a slice of the call's own (from block B on) that holds just these bytes. -/
def Owns (w : World) (B : Nat) (v : Value) (xs : List Int) : Prop :=
  ∃ g cap sp, v = .slice (some ⟨g, 0, none⟩) xs.length cap ∧ B ≤ g ∧ w.heap[g]? = some (.cells (row8 xs sp) 5 (0, 0)) ∧ cap = xs.length + sp.length ∧ cap ≤ maxLen

theorem Owns.of_row {w : World} {B : Nat} {v : Value} {xs : List Int} (h : w.ownsRow B 5 1 v xs.length (xs.map (Value.int .u8))) (hv : v ≠ .slice none 0 0) : Owns w B v xs := by
  obtain ⟨h1, h2⟩ := h
  rcases h2 with ⟨rfl, _⟩ | ⟨g, cap, cur, rfl, hB, hg, hn, hm, hs, ht⟩
  · exact absurd rfl hv
  · refine ⟨g, cap, cur.toList.drop xs.length, rfl, hB, ?_, ?_, hm⟩
    · rw [hg]
      congr 2
      unfold row8
      rw [← ht]
      simp
    · simp [hs]; omega

theorem info_u8 : (Tryd.prog.info? 5).map (fun i => (i.zero, i.size, i.bytes)) = some (some (.int .u8 0), 1, 1) := by kernel_rfl

theorem Owns.str {w : World} {B : Nat} {v : Value} {xs : List Int} (h : Owns w B v xs) : (convert 24 9 v).run Tryd.prog w = .ok (.string (strOfNums xs)) w := by
  obtain ⟨g, cap, sp, rfl, _, hg, _, _⟩ := h
  refine run_convert_bytes_arg w 24 5 Tryd.underlying24 Tryd.underlying5 g 0 _ _ xs rfl (fun i hi => ?_) 9 Tryd.underlying9
  rw [Nat.zero_add, cell_blk hg, row8_get _ _ _ hi]

theorem Owns.kept {T : Nat → Prop} {w w' : World} {B : Nat} {v : Value} {xs : List Int} (h : Owns w B v xs) (k : Kept T w w') (hT : ∀ g, B ≤ g → g < w.heap.size → ¬ T g) : Owns w' B v xs := by
  obtain ⟨g, cap, sp, hv, hB, hg, h1, h2⟩ := h
  exact ⟨g, cap, sp, hv, hB, k.blk hg (hT g hB (blk_lt hg)), h1, h2⟩
theorem Owns.mono {w : World} {B B' : Nat} {v : Value} {xs : List Int} (h : Owns w B v xs) (hB : B' ≤ B) : Owns w B' v xs := by
  obtain ⟨g, cap, sp, hv, h0, hg, h1, h2⟩ := h
  exact ⟨g, cap, sp, hv, by omega, hg, h1, h2⟩
theorem Owns.drewN {w : World} {B : Nat} {v : Value} {xs : List Int} (h : Owns w B v xs) (n : Nat) : Owns (w.drewN n) B v xs := h

def zeros (n : Nat) : List Int := List.replicate n 0
theorem zeros_len (n : Nat) : (zeros n).length = n := by simp [zeros]
theorem zeros_get (n i : Nat) : (zeros n).getD i 0 = 0 := by
  simp only [zeros, List.getD, List.getElem?_replicate]
  split <;> rfl
theorem zeros_mem (n : Nat) : ∀ x ∈ zeros n, 0 ≤ x ∧ x ≤ 255 := by
  intro x hx
  have := List.eq_of_mem_replicate hx
  omega
theorem made8 (n : Nat) : madeCells #[Value.int .u8 0] n = row8 (zeros n) [] := by
  unfold row8 zeros
  apply Array.ext
  · simp [size_madeCells]
  · intro i h1 h2
    simp [madeCells, Nat.mod_one]

theorem mk8 (n : Nat) (hn : n ≤ 1099511627776) (w : World) :
    (Instr.makeSlice 24 (.int .i64 (n : Int)) (.int .i64 (n : Int))).run Tryd.prog w = .ok (.slice (some ⟨w.heap.size, 0, none⟩) n n) (w.alloc (.cells (row8 (zeros n) []) 5)) := by
  rw [← made8]
  exact run_make_row' 24 5 (.int .u8 0) 1 Tryd.underlying24 info_u8 rfl .i64 .i64 n (by omega) (by omega) w

theorem src_blk {w : World} {b : Nat} {xs : List Int} {sp : List Value} (h : w.heap[b]? = some (.cells (row8 xs sp) 5 (0, 0))) : Src w (some ⟨b, 0, none⟩) xs.length xs := by
  refine ⟨rfl, fun i hi => ⟨_, rfl, ?_⟩⟩
  have e : (⟨b, 0, none⟩ : Addr).add i = ⟨b, i, none⟩ := by unfold Addr.add; split <;> simp_all
  rw [e, cell_blk h, row8_get _ _ _ hi]


/-- v is a slice of the call's own (from block B on), or nil, that holds just these bytes. -/
def Own8 (w : World) (B : Nat) (v : Value) (xs : List Int) : Prop := w.ownsRow B 5 1 v xs.length (xs.map (Value.int .u8))

theorem Own8.nil (w : World) (B : Nat) : Own8 w B (.slice none 0 0) [] := ⟨by simp, .inl ⟨rfl, rfl⟩⟩
theorem Own8.of_owns {w : World} {B : Nat} {v : Value} {xs : List Int} (h : Owns w B v xs) : Own8 w B v xs := by
  obtain ⟨g, cap, sp, rfl, hB, hg, hc, hm⟩ := h
  refine ⟨by simp, .inr ⟨g, cap, _, rfl, hB, hg, by omega, hm, by simp [row8]; omega, ?_⟩⟩
  simp [row8]

theorem src_row {w : World} {g : Nat} {cur : Array Value} {fr : Nat × Nat} {t : TypeId} {xs : List Int} {m : Nat} (hg : w.heap[g]? = some (.cells cur t fr)) (ht : cur.toList.take (xs.length * 1) = xs.map (Value.int .u8)) (hm : xs.length = m) :
    Src w (some ⟨g, 0, none⟩) m xs := by
  subst hm
  refine ⟨rfl, fun i hi => ⟨_, rfl, ?_⟩⟩
  have e : (⟨g, 0, none⟩ : Addr).add i = ⟨g, i, none⟩ := by unfold Addr.add; split <;> simp_all
  have hl := congrArg (fun l => l[i]?) ht
  simp only [Nat.mul_one, List.getElem?_take, hi, if_true, List.getElem?_map] at hl
  have hx : xs[i]? = some (xs.getD i 0) := by simp [List.getD, hi]
  rw [e, World.cell?]
  simp only [hg]
  rw [hx] at hl
  simpa using hl

/-- What such a slice is as a value, and as a source. -/
theorem Own8.form {w : World} {B : Nat} {v : Value} {xs : List Int} (h : Own8 w B v xs) :
    ∃ sa c, v = .slice sa xs.length c ∧ xs.length ≤ c ∧ c ≤ maxLen ∧ Src w sa xs.length xs ∧ ((sa = none ∧ xs = [] ∧ c = 0) ∨ ∃ g, sa = some ⟨g, 0, none⟩ ∧ B ≤ g ∧ g < w.heap.size) := by
  obtain ⟨h1, h2⟩ := h
  rcases h2 with ⟨rfl, h0⟩ | ⟨g, cap, cur, rfl, hB, hg, hn, hm, hs, ht⟩
  · have : xs = [] := List.eq_nil_of_length_eq_zero h0
    subst this
    exact ⟨none, 0, rfl, by simp, by simp [maxLen], ⟨rfl, fun i hi => absurd hi (by simp)⟩, .inl ⟨rfl, rfl, rfl⟩⟩
  · exact ⟨_, cap, rfl, hn, hm, src_row hg ht rfl, .inr ⟨g, rfl, hB, blk_lt hg⟩⟩

theorem Own8.kept {T : Nat → Prop} {w w' : World} {B : Nat} {v : Value} {xs : List Int} (h : Own8 w B v xs) (k : Kept T w w') (hT : ∀ g, v.ownBlock = some g → ¬ T g) : Own8 w' B v xs := by
  obtain ⟨h1, h2⟩ := h
  refine ⟨h1, ?_⟩
  rcases h2 with h0 | ⟨g, cap, cur, rfl, hB, hg, hr⟩
  · exact .inl h0
  · exact .inr ⟨g, cap, cur, rfl, hB, k.blk hg (hT g rfl), hr⟩
theorem Own8.below {w w' : World} {B : Nat} {v : Value} {xs : List Int} (h : Own8 w B v xs) (k : Below w.heap.size w w') : Own8 w' B v xs :=
  h.kept (T := fun _ => False) (Kept.of_below k) (fun _ _ => id)
theorem Own8.drewN {w : World} {B : Nat} {v : Value} {xs : List Int} (h : Own8 w B v xs) (n : Nat) : Own8 (w.drewN n) B v xs := h
theorem Own8.drew {w : World} {B : Nat} {v : Value} {xs : List Int} (h : Own8 w B v xs) : Own8 w.drew B v xs := h
theorem Own8.alloc {w : World} {B : Nat} {v : Value} {xs : List Int} (h : Own8 w B v xs) (o : Obj) : Own8 (w.alloc o) B v xs := h.below ((Below.refl _ w).alloc (Nat.le_refl _) o)
theorem Own8.mono {w : World} {B B' : Nat} {v : Value} {xs : List Int} (h : Own8 w B v xs) (hB : B' ≤ B) : Own8 w B' v xs := by
  obtain ⟨h1, h2⟩ := h
  refine ⟨h1, ?_⟩
  rcases h2 with h0 | ⟨g, cap, cur, rfl, hb, hr⟩
  · exact .inl h0
  · exact .inr ⟨g, cap, cur, rfl, by omega, hr⟩
theorem Own8.lt {w : World} {B : Nat} {v : Value} {xs : List Int} (h : Own8 w B v xs) : ∀ k, v.ownBlock = some k → B ≤ k ∧ k < w.heap.size := World.ownsRow.lt h
theorem Own8.len {w : World} {B : Nat} {v : Value} {xs : List Int} (h : Own8 w B v xs) : xs.length ≤ maxLen := by
  obtain ⟨_, c, _, h1, h2, _⟩ := h.form
  omega

/-- The bytes behind an address, as a string; the address may be none. -/
theorem src_str {w : World} {sa : Option Addr} {n c : Nat} {xs : List Int} (h : Src w sa n xs) (hp : ∀ a, sa = some a → a.spot = none) : (convert 24 9 (.slice sa n c)).run Tryd.prog w = .ok (.string (strOfNums xs)) w := by
  cases sa with
  | none =>
    have h0 : n = 0 := by
      rcases Nat.eq_zero_or_pos n with h0 | h0
      · exact h0
      · obtain ⟨_, he, _⟩ := h.cell 0 h0
        cases he
    have hx : xs = [] := List.eq_nil_of_length_eq_zero (h.len.trans h0)
    subst hx
    exact run_convert_bytes_nil w 24 5 Tryd.underlying24 Tryd.underlying5 n c 9 Tryd.underlying9
  | some a =>
    obtain ⟨b, off, el⟩ := a
    have : el = none := hp _ rfl
    subst this
    refine run_convert_bytes_arg w 24 5 Tryd.underlying24 Tryd.underlying5 b off n c xs h.len (fun i hi => ?_) 9 Tryd.underlying9
    obtain ⟨a', he, hc⟩ := h.cell i hi
    cases he
    have e : (⟨b, off, none⟩ : Addr).add i = ⟨b, off + i, none⟩ := by unfold Addr.add; split <;> simp_all
    rwa [e] at hc
theorem Own8.str {w : World} {B : Nat} {v : Value} {xs : List Int} (h : Own8 w B v xs) : (convert 24 9 v).run Tryd.prog w = .ok (.string (strOfNums xs)) w := by
  obtain ⟨sa, c, rfl, _, _, hs, hf⟩ := h.form
  refine src_str hs (fun a ha => ?_)
  rcases hf with ⟨rfl, _⟩ | ⟨g, rfl, _⟩
  · cases ha
  · cases ha; rfl

theorem Src.kept {T : Nat → Prop} {w w' : World} {sa : Option Addr} {n : Nat} {xs : List Int} (h : Src w sa n xs) (k : Kept T w w') (hT : ∀ a, sa = some a → n = 0 ∨ ¬ T a.block) : Src w' sa n xs := by
  refine ⟨h.len, fun i hi => ?_⟩
  obtain ⟨a, he, hc⟩ := h.cell i hi
  refine ⟨a, he, k.cellX hc ?_⟩
  rw [block_add]
  rcases hT a he with h0 | h0
  · omega
  · exact h0
theorem Src.below {w w' : World} {sa : Option Addr} {n : Nat} {xs : List Int} (h : Src w sa n xs) (k : Below w.heap.size w w') : Src w' sa n xs :=
  h.kept (T := fun _ => False) (Kept.of_below k) (fun _ _ => .inr id)

theorem src_news {w : World} {sa : Option Addr} {n : Nat} {xs : List Int} (h : Src w sa n xs) (a : Addr) (ha : sa = some a) : ∀ j u, (xs.map (Value.int .u8))[j]? = some u → w.cell? (a.add j) = some u := by
  intro j u hj
  rw [List.getElem?_map] at hj
  have hjl : j < xs.length := by
    rcases Nat.lt_or_ge j xs.length with q | q
    · exact q
    · rw [List.getElem?_eq_none q] at hj; cases hj
  obtain ⟨a', he, hc⟩ := h.cell j (by rw [← h.len]; exact hjl)
  rw [ha] at he
  cases he
  rw [hc]
  simp [hjl] at hj
  simp [List.getD, hjl, hj]
theorem one_ints (k : IntKind) (xs : List Int) : ∀ u ∈ xs.map (Value.int k), u.oneCell' = true := by
  intro u hu
  obtain ⟨x, _, rfl⟩ := List.mem_map.1 hu
  rfl

theorem run_app8 {w : World} {B : Nat} {v : Value} {xs ys : List Int} {sa : Option Addr} {m c : Nat} {ty : TypeId} (hown : Own8 w B v xs) (hsrc : Src w sa m ys) (hlen : xs.length + m ≤ 140737488355328) (hbase : B ≤ w.heap.size) :
    ∃ v' w', (Builtin.append_ #[24, 24] ty #[v, .slice sa m c]).run Tryd.prog w = .ok v' w' ∧ Own8 w' B v' (xs ++ ys) ∧ w.grownBy w' v.ownBlock ∧
      (v' = .slice none 0 0 ↔ v = .slice none 0 0 ∧ m = 0) ∧ (v'.ownBlock = v.ownBlock ∨ v'.ownBlock = some w.heap.size) := by
  obtain ⟨i0, hi, hz0, hz1, hz2⟩ := info_parts info_u8
  cases sa with
  | none =>
    have h0 : m = 0 := by
      rcases Nat.eq_zero_or_pos m with h0 | h0
      · exact h0
      · obtain ⟨_, he, _⟩ := hsrc.cell 0 h0
        cases he
    have hy : ys = [] := List.eq_nil_of_length_eq_zero (hsrc.len.trans h0)
    subst hy
    subst h0
    refine ⟨v, w, ?_, by rw [List.append_nil]; exact hown, ⟨rfl, rfl, rfl, Nat.le_refl _, fun _ _ _ => rfl⟩, by simp, .inl rfl⟩
    rcases hown.2 with ⟨rfl, h0⟩ | ⟨g, cap, cur, rfl, _, _, hnc, _⟩
    · simp [Builtin.append_, run_underlying Tryd.underlying24, sizeOf, typeInfo, hi, Builtin.lenOf, Builtin.firstCells]
    · simp [Builtin.append_, run_underlying Tryd.underlying24, sizeOf, typeInfo, hi, Builtin.lenOf, Builtin.firstCells, hnc, storeCells]
  | some a =>
    obtain ⟨v', w', h1, h2, h3, h4, h5⟩ := run_append_own_at (P := Tryd.prog) w B 24 ty 5 i0 (.int .u8 0) 1 1 Tryd.underlying24 hi hz0 hz1 hz2 rfl (by decide) v xs.length (xs.map (Value.int .u8)) hown a m c (ys.map (Value.int .u8))
      (by simp [hsrc.len]) (src_news hsrc a rfl) (one_ints _ _) (by unfold maxLen; omega) (by omega) hbase
    refine ⟨v', w', h1, ?_, h3, h4, h5⟩
    unfold Own8
    rw [List.length_append, hsrc.len, List.map_append]
    exact h2

/-- append onto bytes of the call's own, whatever the source. -/
theorem wp_app8 {w : World} {o : Oper} {a : Act} {K : Act → World → Prop} {Q : Exit → Act → World → Prop} (s x : Operand)
    (ho : o.op = .call { callee := .builtin .append, args := #[s, x], argTypes := #[24, 24] })
    (B : Nat) (v : Value) (xs : List Int) (hs : a.eval s = v) (hown : Own8 w B v xs) (sa : Option Addr) (m c : Nat) (ys : List Int) (hx : a.eval x = .slice sa m c) (hsrc : Src w sa m ys)
    (hlen : xs.length + m ≤ 140737488355328) (hbase : B ≤ w.heap.size)
    (h : ∀ v' w', Own8 w' B v' (xs ++ ys) → w.grownBy w' v.ownBlock → (v' = .slice none 0 0 ↔ v = .slice none 0 0 ∧ m = 0) → (v'.ownBlock = v.ownBlock ∨ v'.ownBlock = some w.heap.size) → K (a.put o.dst v') w') : o.wp Tryd.prog a w K Q := by
  obtain ⟨v', w', hr, h2, h3, h4, h5⟩ := run_app8 (ty := o.type) (c := c) hown hsrc hlen hbase
  unfold Oper.wp execOp
  simp only [ho, resolve, invoke, builtin, Sem.run_bind, Sem.run_pure, Result.andThen_ok, List.map_toArray, List.map_cons, List.map_nil, hs, hx, hr]
  exact h v' w' h2 h3 h4 h5
theorem wpList_app8 {w : World} {ops : Array Oper} {rest : List Oper} {o : Oper} {a : Act} {Q : Exit → Act → World → Prop} (hgd : o.guard = none) (s x : Operand)
    (ho : o.op = .call { callee := .builtin .append, args := #[s, x], argTypes := #[24, 24] })
    (B : Nat) (v : Value) (xs : List Int) (hs : a.eval s = v) (hown : Own8 w B v xs) (sa : Option Addr) (m c : Nat) (ys : List Int) (hx : a.eval x = .slice sa m c) (hsrc : Src w sa m ys)
    (hlen : xs.length + m ≤ 140737488355328) (hbase : B ≤ w.heap.size)
    (h : ∀ v' w', Own8 w' B v' (xs ++ ys) → w.grownBy w' v.ownBlock → (v' = .slice none 0 0 ↔ v = .slice none 0 0 ∧ m = 0) → (v'.ownBlock = v.ownBlock ∨ v'.ownBlock = some w.heap.size) → wpList Tryd.prog ops Q rest (a.put o.dst v') w') :
    wpList Tryd.prog ops Q (o :: rest) a w :=
  wpList_plain hgd fun _ hK => wp_app8 s x ho B v xs hs hown sa m c ys hx hsrc hlen hbase fun v' w' h2 h3 h4 h5 => hK _ _ (h v' w' h2 h3 h4 h5)
theorem step_app8 {w : World} {ops : Array Oper} {o : Oper} {a : Act} {K : Act → World → Prop} {Q : Exit → Act → World → Prop} {E : Prop} (hgd : o.guard = none) (s x : Operand)
    (ho : o.op = .call { callee := .builtin .append, args := #[s, x], argTypes := #[24, 24] })
    (B : Nat) (v : Value) (xs : List Int) (hs : a.eval s = v) (hown : Own8 w B v xs) (sa : Option Addr) (m c : Nat) (ys : List Int) (hx : a.eval x = .slice sa m c) (hsrc : Src w sa m ys)
    (hlen : xs.length + m ≤ 140737488355328) (hbase : B ≤ w.heap.size)
    (h : ∀ v' w', Own8 w' B v' (xs ++ ys) → w.grownBy w' v.ownBlock → (v' = .slice none 0 0 ↔ v = .slice none 0 0 ∧ m = 0) → (v'.ownBlock = v.ownBlock ∨ v'.ownBlock = some w.heap.size) → K (a.put o.dst v') w') :
    if Region.wanted o (yielded ops a.tmps) = true then Oper.wp Tryd.prog o a w K Q else E := by
  have hw : Region.wanted o (yielded ops a.tmps) = true := by simp [Region.wanted, hgd]
  rw [if_pos hw]
  exact wp_app8 s x ho B v xs hs hown sa m c ys hx hsrc hlen hbase h

/-- Behind such an append: nothing below B has turned. -/
theorem app8_below {w w' w0 : World} {B : Nat} {v : Value} {xs : List Int} (hown : Own8 w B v xs) (hg : w.grownBy w' v.ownBlock) (hb : Below B w0 w) (hB : B ≤ w.heap.size) : Below B w0 w' :=
  hb.grown hg hB (fun k hk => (hown.lt k hk).1)

/-- A byte in a block of its own. -/
theorem src_one (w : World) (x : Int) : Src (w.alloc (.cells #[.int .u8 x] 5)) (some ⟨w.heap.size, 0, none⟩) 1 [x] := by
  refine ⟨rfl, fun i hi => ⟨_, rfl, ?_⟩⟩
  obtain rfl : i = 0 := by omega
  rw [show (⟨w.heap.size, 0, none⟩ : Addr).add 0 = ⟨w.heap.size, 0, none⟩ from rfl, cell_blk (blk_new w _)]
  rfl

end Go.Proofs.YtoljnogpegemjaaDoor
