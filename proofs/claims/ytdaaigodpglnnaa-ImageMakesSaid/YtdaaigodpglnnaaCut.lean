/- image.Cut: the blocks of bytes. Condition: the bytes lie there. -/
import Derived.Test.YtdaaigodpglnnaaChk
namespace Go.Proofs.Ytdaaigodpglnnaa
open Go.RowKit Go.Shelf
attribute [local go_sem] Oper.semAt_some

set_option maxRecDepth 100000 in
set_option maxHeartbeats 1000000 in
theorem chunkmk_in (F : Fence) (N : Nat) (h34 : F.fn 34) (hro : F.round = none) (a : Option Addr) (n c : Nat) (w : World) :
    CallsIn F N Try.prog 34 #[.slice a n c, .int .i64 64] w fun e w' => e = .returned (.func (.func 56) #[] #[.pointer (some ⟨w.heap.size, 0, none⟩), .pointer (some ⟨w.heap.size + 1, 0, none⟩)]) ∧
      w' = (w.alloc (.cells #[.slice a n c] 22)).alloc (.cells #[.int .i64 64] 3) := by
  refine callsIn_of_wp Try.func34 rfl h34 ?_ hro
  simp only [Try.ntmps34, List.size_toArray, List.length_cons, List.length_nil, Nat.reduceAdd, Nat.reduceSub, Array.replicate_succ, Array.replicate_zero, List.push_toArray, List.append_toArray, List.nil_append, List.cons_append]
  gi_wp2
  go_ret
  exact ⟨rfl, rfl⟩

theorem kpC_t {Bs Bn n₀ : Nat} {A B C : World} (h : KpC Bs Bn n₀ A B) (k : KpC Bs Bn n₀ B C) : KpC Bs Bn n₀ A C := ⟨h.1.trans k.1, k.2.1.trans h.2.1, k.2.2.trans h.2.2⟩
theorem kpC_b {Bs Bn n₀ : Nat} {w : World} (hn : n₀ ≤ w.heap.size) (h1 : Bs < w.heap.size) (h2 : Bn < w.heap.size) (W : World) (l : Nat) (o o' : Obj) (hl : w.heap.size ≤ l) (h : W.heap[l]? = some o) (hc : o.isCells = false) (hw : o.isWalk = false) : KpC Bs Bn n₀ W (W.putObj l o') := by
  refine ⟨belowK_b hn W l o o' hl h hc hw, ?_, ?_⟩
  · exact World.cell?_of_block (World.putObj_heap_other (by show Bs ≠ l; omega))
  · exact World.cell?_of_block (World.putObj_heap_other (by show Bn ≠ l; omega))
theorem chunk_stops (F : Fence) (N : Nat) (h56 : F.fn 56) (hro : F.round = none) (hN : 1 ≤ N) (Bs Bn n₀ : Nat) (ad : Addr) (n c : Nat) (hc : n ≤ c) (h0n : 0 < n) (hn : n ≤ 2048) (w : World)
    (hcs : w.cell? ⟨Bs, 0, none⟩ = some (.slice (some ad) n c)) (hcn : w.cell? ⟨Bn, 0, none⟩ = some (.int .i64 64)) :
    SeqStopsK F N Try.prog 56 #[.pointer (some ⟨Bs, 0, none⟩), .pointer (some ⟨Bn, 0, none⟩)] (fun k : Nat => #[chv ad n k]) (KpC Bs Bn n₀) (fun ys => ys = List.range (nblk n)) (fun _ => True) (nblk n) w := fun l J Jx W hW hJ _ hY h0 =>
  chunk1_in F N h56 hro hN l Bs Bn n₀ ad n c hc h0n hn J Jx hY W hJ ((hW.cell (p := ⟨Bs, 0, none⟩) (World.block_lt_of_cell? w _ hcs)).trans hcs) ((hW.cell (p := ⟨Bn, 0, none⟩) (World.block_lt_of_cell? w _ hcn)).trans hcn) h0

theorem keeps_below {W W' : World} (h : Below W.heap.size W W') : KeepsOthers W W' := ⟨h.size, fun k _ hk _ => (h.block k (Array.getElem?_eq_some_iff.1 hk).1).trans hk⟩

/-- The list abides the turn of a block that is no cells. -/
theorem OwnL.grow {w w' : World} {row : Option Nat} {B : Nat} {v : Value} {L : List (List Int)} (h : OwnL w B v L) (hg : w.grownBy w' row) (hr : ∀ r, row = some r → ∃ o : Obj, w.heap[r]? = some o ∧ o.isCells = false) : OwnL w' B v L := by
  have hk := kept_grown hg
  have far : ∀ {g : Nat} {o : Obj}, w.heap[g]? = some o → o.isCells = true → w'.heap[g]? = some o := by
    intro g o hb ho
    refine hk.blk hb (fun e => ?_)
    obtain ⟨o', h1, h2⟩ := hr g e
    rw [hb] at h1
    cases h1
    rw [ho] at h2
    cases h2
  obtain ⟨vs, ⟨h1, h2⟩, h3, h4⟩ := h
  refine ⟨vs, ⟨h1, ?_⟩, h3, fun i hi => ?_⟩
  · rcases h2 with h0 | ⟨g, cap, cur, rfl, hB, hb, hrr⟩
    · exact .inl h0
    · exact .inr ⟨g, cap, cur, rfl, hB, far hb rfl, hrr⟩
  · obtain ⟨g, cap, sp, e, hB, hb, hc, hm⟩ := h4 i hi
    exact ⟨g, cap, sp, e, hB, far hb rfl, hc, hm⟩

theorem OwnL.cells {w : World} {B : Nat} {v : Value} {L : List (List Int)} (h : OwnL w B v L) (j : Nat) (o : Obj) (hj : v.ownBlock = some j) (ho : w.heap[j]? = some o) : o.isCells = true := by
  obtain ⟨vs, ⟨h1, h2⟩, h3, h4⟩ := h
  rcases h2 with ⟨rfl, _⟩ | ⟨g, cap, cur, rfl, hb, hg, hr⟩
  · cases hj
  · have : g = j := by simpa [Value.ownBlock] using hj
    subst this
    rw [hg] at ho
    cases ho
    rfl
theorem OwnL.mono {w : World} {B B' : Nat} {v : Value} {L : List (List Int)} (h : OwnL w B v L) (hB : B' ≤ B) : OwnL w B' v L := by
  obtain ⟨vs, ⟨h1, h2⟩, h3, h4⟩ := h
  refine ⟨vs, ⟨h1, ?_⟩, h3, fun i hi => (h4 i hi).mono hB⟩
  rcases h2 with h0 | ⟨g, cap, cur, rfl, hb, hr⟩
  · exact .inl h0
  · exact .inr ⟨g, cap, cur, rfl, by omega, hr⟩
/-- A store into a block that holds no list's row and no bytes. -/
theorem OwnL.store {w : World} {B b : Nat} {v u x : Value} {L : List (List Int)} (h : OwnL w B v L) (hb : w.heap[b]? = some (.cells #[x] 24 (0, 0))) : OwnL (w.setCell ⟨b, 0, none⟩ u) B v L := by
  have far : ∀ {g : Nat} {c : Array Value} {t : TypeId}, t ≠ 24 → w.heap[g]? = some (.cells c t (0, 0)) → (w.setCell ⟨b, 0, none⟩ u).heap[g]? = some (.cells c t (0, 0)) := by
    intro g c t ht hg
    refine blk_setCell_ne hg _ (fun e => ?_)
    rw [e, hb] at hg
    injection hg with hg
    injection hg with _ e2
    exact ht e2.symm
  obtain ⟨vs, ⟨h1, h2⟩, h3, h4⟩ := h
  refine ⟨vs, ⟨h1, ?_⟩, h3, fun i hi => ?_⟩
  · rcases h2 with h0 | ⟨g, cap, cur, rfl, hB, hg, hrr⟩
    · exact .inl h0
    · exact .inr ⟨g, cap, cur, rfl, hB, far (by decide) hg, hrr⟩
  · obtain ⟨g, cap, sp, e, hB, hg, hc, hm⟩ := h4 i hi
    exact ⟨g, cap, sp, e, hB, far (by decide) hg, hc, hm⟩

theorem wpListIn_copy_splice {F : Fence} {n : Nat} {P : Program} {w : World} {ops : Array Oper} {rest : List Oper} {o : Oper} {a : Act} {Q : Exit → Act → World → Prop} (hgd : o.guard = none) (d s : Operand) (dT sT : TypeId)
    (ho : o.op = .call { callee := .builtin .copy, args := #[d, s], argTypes := #[dT, sT] }) (elem : TypeId) (hu : P.underlying dT = some (.slice elem)) (hsz : (P.info? elem).map (·.size) = some 1)
    (dp sp : Option Addr) (dLen dCap sLen sCap : Nat) (hd : a.eval d = .slice dp dLen dCap) (hs : a.eval s = .slice sp sLen sCap)
    (g off : Nat) (cur : List Value) (t : TypeId) (hg : w.heap[g]? = some (.cells cur.toArray t (0, 0))) (cs : List Value) (hn : cs.length = Nat.min sLen dLen)
    (hpos : 0 < cs.length → dp = some ⟨g, off, none⟩ ∧ ∃ ad, sp = some ad ∧ ∀ j v, cs[j]? = some v → w.cell? (ad.add j) = some v)
    (hfit : off + cs.length ≤ cur.length) (h1 : ∀ v ∈ cs, v.oneCell' = true) (B : Nat) (w0 : World) (hb : Below B w0 w) (hBg : B ≤ g)
    (h : ∀ w', Hid (w'.heap[g]? = some (.cells (splice cur off cs).toArray t (0, 0))) → Below B w0 w' → wpListIn F n P ops Q rest (a.put o.dst (goInt cs.length)) w') :
    wpListIn F n P ops Q (o :: rest) a w := by
  refine wpListIn_plain hgd fun K hK => ?_
  unfold Oper.wpIn
  refine ⟨by simp [Oper.about, ho, resolve, Target.leads, Sem.run_pure], ?_⟩
  rw [Oper.semAt_plain F _ _ (by rw [ho]; intro c hc'; cases hc')]
  by_cases h0 : cs.length = 0
  · obtain rfl : cs = [] := List.eq_nil_of_length_eq_zero h0
    have hrun := run_copy_none (P := P) w dT sT o.type elem dp sp dLen dCap sLen sCap hu hsz (by simpa using hn.symm)
    simp [execOp, ho, resolve, invoke, builtin, hd, hs, hrun, Result.andThen]
    exact hK _ _ (h w (show _ = _ by simpa [splice] using hg) hb)
  · obtain ⟨rfl, ad, rfl, hsrc⟩ := hpos (by omega)
    have hrun := run_copy_row (P := P) w dT sT o.type elem g off dLen dCap ad sLen sCap cur.toArray t cs hu hsz hg hn hsrc (by simpa using hfit) h1
    simp [execOp, ho, resolve, invoke, builtin, hd, hs, hrun, Result.andThen]
    exact hK _ _ (h _ (show _ = _ by simpa [splice] using setRow_heap w g _ _ t _ hg) (below_setRow hb hBg _))

end Go.Proofs.Ytdaaigodpglnnaa
