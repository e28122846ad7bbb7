/- Lists of lists of bytes of the call's own: held, read, appended to. No condition. -/
import Derived.Test.YtcecgbjpmegljaaSrcL
import Derived.Test.YtcecgbjpmegljaaClone
import Derived.OwnWalkIn
namespace Go.Proofs.Ytcecgbjpmegljaa
open Go.RowKit

theorem info_tB : (Try.prog.info? 26).map (fun i => (i.zero, i.size, i.bytes)) = some (some (.slice none 0 0), 1, 24) := by kernel_rfl

theorem ownsRow_kept {T : Nat → Prop} {w w' : World} {B : Nat} {e : TypeId} {size : Nat} {v : Value} {k : Nat} {xs : List Value} (h : w.ownsRow B e size v k xs) (hk : Kept T w w') (hT : ∀ g, v.ownBlock = some g → ¬ T g) : w'.ownsRow B e size v k xs := by
  obtain ⟨h1, h2⟩ := h
  refine ⟨h1, ?_⟩
  rcases h2 with h0 | ⟨g, cap, cur, rfl, hB, hg, hr⟩
  · exact .inl h0
  · exact .inr ⟨g, cap, cur, rfl, hB, hk.blk hg (hT g rfl), hr⟩
theorem kept_grown {w w' : World} {r : Option Nat} (h : w.grownBy w' r) : Kept (fun g => r = some g) w w' :=
  ⟨h.os, h.tape, h.output, h.size, fun k hk ht => h.block k hk (fun e => ht e.symm)⟩

/-- v is a slice of the call's own (from block B on) that holds slices of the call's own, of just these bytes. -/
def OwnL (w : World) (B : Nat) (v : Value) (L : List (List Int)) : Prop :=
  ∃ vs : List Value, w.ownsRow B 26 1 v L.length vs ∧ vs.length = L.length ∧ ∀ i, i < L.length → Owns w B (vs.getD i undef) (L.getD i [])

theorem OwnL.nil (w : World) (B : Nat) : OwnL w B (.slice none 0 0) [] := ⟨[], ⟨by simp, .inl ⟨rfl, rfl⟩⟩, rfl, fun i h => absurd h (by simp)⟩
theorem OwnL.below {w w' : World} {B : Nat} {v : Value} {L : List (List Int)} (h : OwnL w B v L) (k : Below w.heap.size w w') : OwnL w' B v L := by
  obtain ⟨vs, h1, h2, h3⟩ := h
  exact ⟨vs, ownsRow_kept (T := fun _ => False) h1 (Kept.of_below k) (fun _ _ => id), h2, fun i hi => (h3 i hi).kept (T := fun _ => False) (Kept.of_below k) (fun _ _ _ => id)⟩
theorem OwnL.alloc {w : World} {B : Nat} {v : Value} {L : List (List Int)} (h : OwnL w B v L) (o : Obj) : OwnL (w.alloc o) B v L := h.below ((Below.refl _ w).alloc (Nat.le_refl _) o)
theorem OwnL.drew {w : World} {B : Nat} {v : Value} {L : List (List Int)} (h : OwnL w B v L) : OwnL w.drew B v L := h
theorem OwnL.drewN {w : World} {B : Nat} {v : Value} {L : List (List Int)} (h : OwnL w B v L) (n : Nat) : OwnL (w.drewN n) B v L := h

theorem OwnL.lt {w : World} {B : Nat} {v : Value} {L : List (List Int)} (h : OwnL w B v L) : ∀ k, v.ownBlock = some k → B ≤ k ∧ k < w.heap.size := by
  obtain ⟨vs, h1, h2, h3⟩ := h
  exact World.ownsRow.lt h1
/-- Such a list as a value, and as a source. -/
theorem OwnL.form {w : World} {B : Nat} {v : Value} {L : List (List Int)} (h : OwnL w B v L) :
    ∃ sa c, v = .slice sa L.length c ∧ L.length ≤ c ∧ SrcL w sa L.length L ∧ (∀ a, sa = some a → a.spot = none) := by
  obtain ⟨vs, ⟨h1, h2⟩, h3, h4⟩ := h
  rcases h2 with ⟨rfl, h0⟩ | ⟨g, cap, cur, rfl, hB, hg, hn, hm, hs, ht⟩
  · have : L = [] := List.eq_nil_of_length_eq_zero h0
    subst this
    exact ⟨none, 0, rfl, by simp, ⟨rfl, fun i hi => absurd hi (by simp)⟩, fun a e => by cases e⟩
  · refine ⟨_, cap, rfl, hn, ⟨rfl, fun i hi => ?_⟩, fun a e => by cases e; rfl⟩
    obtain ⟨g', c', sp', e, hB', hg', hc', hm'⟩ := h4 i hi
    refine ⟨_, some ⟨g', 0, none⟩, c', rfl, ?_, by omega, src_blk hg'⟩
    have e1 : (⟨g, 0, none⟩ : Addr).add i = ⟨g, i, none⟩ := by unfold Addr.add; split <;> simp_all
    have hl := congrArg (fun l => l[i]?) ht
    simp only [Nat.mul_one, List.getElem?_take, hi, if_true] at hl
    rw [e1, cell_blk hg]
    have hv : vs[i]? = some (vs.getD i undef) := by simp [List.getD, show i < vs.length by omega]
    rw [hv, e] at hl
    simpa using hl

theorem getD_snoc {α : Type} (xs : List α) (x d : α) (i : Nat) : (xs ++ [x]).getD i d = if i < xs.length then xs.getD i d else if i = xs.length then x else d := by
  simp only [List.getD]
  by_cases h : i < xs.length
  · rw [List.getElem?_append_left h, if_pos h]
  · rw [if_neg h, List.getElem?_append_right (by omega)]
    by_cases e : i = xs.length
    · rw [if_pos e, e]; simp
    · rw [if_neg e, List.getElem?_eq_none (by simp; omega)]
      rfl

/-- append of one list onto such a list, out of the block of one that the call lays for it. -/
theorem OwnL.snoc {w w' : World} {B : Nat} {v v' x : Value} {L : List (List Int)} {l : List Int} (h : OwnL w B v L) (hx : Owns w B x l)
    (hr : ∀ vs, w.ownsRow B 26 1 v L.length vs → w'.ownsRow B 26 1 v' (L.length + 1) (vs ++ [x])) (hg : w.grownBy w' v.ownBlock) : OwnL w' B v' (L ++ [l]) := by
  obtain ⟨vs, h1, h2, h3⟩ := h
  have hk := kept_grown hg
  have far : ∀ {y ys}, Owns w B y ys → Owns w' B y ys := by
    intro y ys hy
    obtain ⟨g, cap, sp, e, hB, hb, hc, hm⟩ := hy
    refine ⟨g, cap, sp, e, hB, hk.blk hb ?_, hc, hm⟩
    intro e2
    rcases h1.2 with ⟨rfl, _⟩ | ⟨g2, cap2, cur2, rfl, _, hb2, _⟩
    · cases e2
    · have : g2 = g := by simpa [Value.ownBlock] using e2
      subst this
      rw [hb] at hb2
      simp at hb2
  refine ⟨vs ++ [x], by rw [List.length_append]; exact hr vs h1, by simp [h2], fun i hi => ?_⟩
  rw [getD_snoc, getD_snoc, h2]
  by_cases hlt : i < L.length
  · rw [if_pos hlt, if_pos hlt]
    exact far (h3 i hlt)
  · rw [if_neg hlt, if_neg hlt, if_pos (by simp at hi; omega), if_pos (by simp at hi; omega)]
    exact far hx

/-- What the append's law wants to hear, and what it tells: the one list is laid in a block of one. -/
theorem run_appL {w : World} {B : Nat} {v x : Value} {L : List (List Int)} {l : List Int} {ty : TypeId} (hown : OwnL w B v L) (hx : Owns w B x l) (hlen : L.length < 1099511627776) (hbase : B ≤ w.heap.size) :
    ∃ v' w', (Builtin.append_ #[22, 22] ty #[v, .slice (some ⟨w.heap.size, 0, none⟩) 1 1]).run Try.prog (w.alloc (.cells #[x] 26)) = .ok v' w' ∧ OwnL w' B v' (L ++ [l]) ∧ (w.alloc (.cells #[x] 26)).grownBy w' v.ownBlock := by
  obtain ⟨i0, hi, hz0, hz1, hz2⟩ := info_parts info_tB
  obtain ⟨vs, h1, h2, h3⟩ := hown
  have hb1 : Below w.heap.size w (w.alloc (.cells #[x] 26)) := (Below.refl _ w).alloc (Nat.le_refl _) _
  have hone : x.oneCell' = true := by obtain ⟨g, c, sp, rfl, _⟩ := hx; rfl
  have h1' := ownsRow_kept (T := fun _ => False) h1 (Kept.of_below hb1) (fun _ _ => id)
  obtain ⟨v', w', e1, e2, e3, e4, e5⟩ := run_append_own_at (P := Try.prog) (w.alloc (.cells #[x] 26)) B 22 ty 26 i0 (.slice none 0 0) 1 24 Try.underlying22 hi hz0 hz1 hz2 rfl (by decide) v L.length vs h1' ⟨w.heap.size, 0, none⟩ 1 1 [x]
    rfl (by
      intro j u hj
      obtain rfl : j = 0 := by
        rcases Nat.eq_zero_or_pos j with h0 | h0
        · exact h0
        · rw [List.getElem?_eq_none (by simp; omega)] at hj; cases hj
      cases hj
      rw [show (⟨w.heap.size, 0, none⟩ : Addr).add 0 = ⟨w.heap.size, 0, none⟩ from rfl, cell_blk (blk_new w _)]
      rfl) (by simp [hone]) (by unfold maxLen; omega) (by omega) (by simp; omega)
  refine ⟨v', w', e1, ?_, e3⟩
  exact OwnL.snoc (L := L) ⟨vs, h1', h2, fun i hi => (h3 i hi).kept (T := fun _ => False) (Kept.of_below hb1) (fun _ _ _ => id)⟩ (hx.kept (T := fun _ => False) (Kept.of_below hb1) (fun _ _ _ => id))
    (fun vs' hv' => by
      have : vs' = vs := by
        rcases hv'.2 with ⟨q, hq⟩ | ⟨g, cap, cur, q, _, hg, _, _, _, ht⟩
        · have z1 := hv'.1; have z2 := h1'.1
          rw [hq] at z1 z2
          exact (List.eq_nil_of_length_eq_zero (by simpa using z1)).trans (List.eq_nil_of_length_eq_zero (by simpa using z2)).symm
        · rcases h1'.2 with ⟨q', _⟩ | ⟨g2, cap2, cur2, q2, _, hg2, _, _, _, ht2⟩
          · rw [q'] at q; cases q
          · rw [q] at q2
            cases q2
            rw [hg] at hg2
            cases hg2
            rw [← ht, ← ht2]
      rw [this]
      exact e2) e3

theorem wpList_appL {w : World} {ops : Array Oper} {rest : List Oper} {o : Oper} {a : Act} {Q : Exit → Act → World → Prop} (hgd : o.guard = none) (s y : Operand)
    (ho : o.op = .call { callee := .builtin .append, args := #[s, y], argTypes := #[22, 22] })
    (B : Nat) (v x : Value) (L : List (List Int)) (l : List Int) (hs : a.eval s = v) (hy : a.eval y = .slice (some ⟨w.heap.size, 0, none⟩) 1 1) (hown : OwnL w B v L) (hx : Owns w B x l) (hlen : L.length < 1099511627776) (hbase : B ≤ w.heap.size)
    (h : ∀ v' w', OwnL w' B v' (L ++ [l]) → (w.alloc (.cells #[x] 26)).grownBy w' v.ownBlock → wpList Try.prog ops Q rest (a.put o.dst v') w') : wpList Try.prog ops Q (o :: rest) a (w.alloc (.cells #[x] 26)) := by
  refine wpList_plain hgd fun _ hK => ?_
  obtain ⟨v', w', hr, h2, h3⟩ := run_appL (ty := o.type) hown hx hlen hbase
  unfold Oper.wp execOp
  simp only [ho, resolve, invoke, builtin, Sem.run_bind, Sem.run_pure, Result.andThen_ok, List.map_toArray, List.map_cons, List.map_nil, hs, hy, hr]
  exact hK _ _ (h v' w' h2 h3)
theorem wpListIn_appL {F : Fence} {n : Nat} {w : World} {ops : Array Oper} {rest : List Oper} {o : Oper} {a : Act} {Q : Exit → Act → World → Prop} (hgd : o.guard = none) (s y : Operand)
    (ho : o.op = .call { callee := .builtin .append, args := #[s, y], argTypes := #[22, 22] })
    (B : Nat) (v x : Value) (L : List (List Int)) (l : List Int) (hs : a.eval s = v) (hy : a.eval y = .slice (some ⟨w.heap.size, 0, none⟩) 1 1) (hown : OwnL w B v L) (hx : Owns w B x l) (hlen : L.length < 1099511627776) (hbase : B ≤ w.heap.size)
    (h : ∀ v' w', OwnL w' B v' (L ++ [l]) → (w.alloc (.cells #[x] 26)).grownBy w' v.ownBlock → wpListIn F n Try.prog ops Q rest (a.put o.dst v') w') : wpListIn F n Try.prog ops Q (o :: rest) a (w.alloc (.cells #[x] 26)) := by
  refine wpListIn_plain hgd fun K hK' => ?_
  obtain ⟨v', w', hr, h2, h3⟩ := run_appL (ty := o.type) hown hx hlen hbase
  unfold Oper.wpIn
  refine ⟨?_, ?_⟩
  · simp [Oper.about, ho, resolve, Target.leads, Sem.run_pure]
  · rw [Oper.semAt_plain F _ _ (by rw [ho]; intro c hc'; cases hc')]
    simp [execOp, ho, resolve, invoke, builtin, hs, hy, hr, Result.andThen]
    exact hK' _ _ (h v' w' h2 h3)

end Go.Proofs.Ytcecgbjpmegljaa
