/- Lists of lists of bytes behind one another (append). Condition: lists of the call's size. -/
import Derived.Test.YtoljnogpegemjaaDoorSrcL
import Derived.Test.YtoljnogpegemjaaDoorByt
namespace Go.Proofs.YtoljnogpegemjaaDoor
open Go.RowKit

theorem SrcL.vals {w : World} {sa : Option Addr} {n : Nat} {L : List (List Int)} (h : SrcL w sa n L) : ∃ vs : List Value, vs.length = n ∧ (∀ b, sa = some b → ∀ j u, vs[j]? = some u → w.cell? (b.add j) = some u) ∧ (∀ u ∈ vs, u.oneCell' = true) ∧
    ∀ i, i < n → ∃ si ci, vs[i]? = some (.slice si (L.getD i []).length ci) ∧ (L.getD i []).length ≤ ci ∧ Src w si (L.getD i []).length (L.getD i []) := by
  cases sa with
  | none =>
    have h0 : n = 0 := by
      rcases Nat.eq_zero_or_pos n with h0 | h0
      · exact h0
      · obtain ⟨_, _, _, he, _⟩ := h.cell 0 h0
        cases he
    subst h0
    refine ⟨[], rfl, ?_, ?_, ?_⟩
    · intro b hb; cases hb
    · intro u hu; cases hu
    · intro i hi; exact absurd hi (Nat.not_lt_zero _)
  | some b =>
    have hx : ∀ i, i < n → ∃ si ci, w.cell? (b.add i) = some (.slice si (L.getD i []).length ci) ∧ (L.getD i []).length ≤ ci ∧ Src w si (L.getD i []).length (L.getD i []) := by
      intro i hi
      obtain ⟨a, si, ci, e, h1, h2, h3⟩ := h.cell i hi
      cases e
      exact ⟨si, ci, h1, h2, h3⟩
    refine ⟨(List.range n).map fun i => (w.cell? (b.add i)).getD undef, by simp, ?_, ?_, ?_⟩
    · rintro b' hb' j u hj
      cases hb'
      rw [List.getElem?_map, Option.map_eq_some_iff] at hj
      obtain ⟨k, hk, rfl⟩ := hj
      obtain ⟨hk1, hk2⟩ := List.getElem?_eq_some_iff.1 hk
      rw [List.length_range] at hk1
      rw [List.getElem_range] at hk2
      subst hk2
      obtain ⟨si, ci, h1, _⟩ := hx j hk1
      rw [h1]; rfl
    · intro u hu
      obtain ⟨i, hi, rfl⟩ := List.mem_map.1 hu
      obtain ⟨si, ci, h1, _⟩ := hx i (List.mem_range.1 hi)
      rw [h1]; rfl
    · intro i hi
      obtain ⟨si, ci, h1, h2, h3⟩ := hx i hi
      exact ⟨si, ci, by rw [List.getElem?_map, List.getElem?_range hi]; simp [h1], h2, h3⟩
theorem SrcL.of_vals {w : World} {ad : Addr} {n : Nat} {L : List (List Int)} (hl : L.length = n) (vs : List Value) (hc : ∀ j u, vs[j]? = some u → w.cell? (ad.add j) = some u)
    (hv : ∀ i, i < n → ∃ si ci, vs[i]? = some (.slice si (L.getD i []).length ci) ∧ (L.getD i []).length ≤ ci ∧ Src w si (L.getD i []).length (L.getD i [])) : SrcL w (some ad) n L :=
  ⟨hl, fun i hi => by
    obtain ⟨si, ci, h1, h2, h3⟩ := hv i hi
    exact ⟨ad, si, ci, rfl, hc i _ h1, h2, h3⟩⟩
theorem info_tB1 : (Tryd.prog.info? 24).map (fun i => (i.zero, i.size, i.bytes)) = some (some (.slice none 0 0), 1, 24) := by kernel_rfl
theorem getD_app (A B : List (List Int)) (i : Nat) : (A ++ B).getD i [] = if i < A.length then A.getD i [] else B.getD (i - A.length) [] := by
  by_cases h : i < A.length
  · rw [if_pos h]; simp [List.getD, List.getElem?_append_left h]
  · rw [if_neg h]; simp [List.getD, List.getElem?_append_right (Nat.not_lt.1 h)]

theorem wpList_appLL {w : World} {ops : Array Oper} {rest : List Oper} {o : Oper} {a : Act} {Q : Exit → Act → World → Prop} (hg : o.guard = none) (s x : Operand)
    (hop : o.op = Op.call { callee := Callee.builtin Builtin.append, args := #[s, x], argTypes := #[60, 60] }) (g oa na : Nat) (LA : List (List Int)) (sb : Option Addr) (nb cb : Nat) (LB : List (List Int))
    (hs : a.eval s = .slice (some ⟨g, oa, none⟩) na na) (hx : a.eval x = .slice sb nb cb) (hA : SrcL w (some ⟨g, oa, none⟩) na LA) (hB : SrcL w sb nb LB) (hn : na + nb ≤ 1099511627776)
    (h : ∀ ad' cap w', SrcL w' (some ad') (na + nb) (LA ++ LB) → Below w.heap.size w w' → wpList Tryd.prog ops Q rest (a.put o.dst (.slice (some ad') (na + nb) cap)) w') : wpList Tryd.prog ops Q (o :: rest) a w := by
  obtain ⟨i0, hi, hz⟩ := Option.map_eq_some_iff.1 info_tB1
  simp only [Prod.mk.injEq] at hz
  obtain ⟨z0, z1, z2⟩ := hz
  have hll : (LA ++ LB).length = na + nb := by rw [List.length_append, hA.len, hB.len]
  rcases Nat.eq_zero_or_pos nb with h0 | hpos
  · subst h0
    have hLB : LB = [] := List.eq_nil_of_length_eq_zero hB.len
    subst hLB
    have hrun : (Builtin.append_ #[60, 60] o.type #[.slice (some ⟨g, oa, none⟩) na na, .slice sb 0 cb]).run Tryd.prog w = .ok (.slice (some ⟨g, oa, none⟩) (na + 0) na) w := by
      cases sb with
      | none => simp [Builtin.append_, run_underlying Tryd.underlying60, sizeOf, typeInfo, hi, Builtin.lenOf, Builtin.firstCells, storeCells]
      | some b => exact run_append_room_cells (P := Tryd.prog) w 60 o.type 24 i0 Tryd.underlying60 hi g oa na na b 0 cb [] (by simp) (by simp) (by simp) (by simp) (by simp) (by simp)
    refine wpList_plain hg fun _ hK => ?_
    unfold Oper.wp execOp
    simp only [hop, resolve, invoke, builtin, Sem.run_bind, Sem.run_pure, Result.andThen_ok, List.map_toArray, List.map_cons, List.map_nil, hs, hx, hrun]
    exact hK _ _ (h _ _ _ (by simpa using hA) (Below.refl _ w))
  · obtain ⟨va, a1, a2, a3, a4⟩ := hA.vals
    obtain ⟨vb, b1, b2, b3, b4⟩ := hB.vals
    cases sb with
    | none =>
      obtain ⟨_, _, _, he, _⟩ := hB.cell 0 hpos
      cases he
    | some b =>
    refine wpList_append_grows w hg s x _ hop 24 i0 (.slice none 0 0) 1 24 Tryd.underlying60 hi z0 z1 z2 rfl (by decide) (some ⟨g, oa, none⟩) na na va hs (fun e => by cases e) (by simp [a1]) a2 b nb cb vb hx (by simp [b1]) (b2 b rfl) b3 (by omega) (by unfold maxLen; omega) (by omega) ?_
    intro v' w' hown hgr
    have hb : Below w.heap.size w w' := ⟨hgr.os, hgr.tape, hgr.output, hgr.size, fun k hk => hgr.block k hk (by simp)⟩
    rcases hown.2 with ⟨-, h0⟩ | ⟨g', cap, cur, rfl, -, -⟩
    · exact absurd h0 (by omega)
    · refine h _ cap w' (SrcL.of_vals hll (va ++ vb) (fun j u hj => World.ownsRow.cells hown (g := g') rfl j u hj) (fun i hi' => ?_)) hb
      rw [getD_app, hA.len]
      by_cases hlt : i < na
      · obtain ⟨si, ci, h1, h2, h3⟩ := a4 i hlt
        rw [if_pos hlt]
        exact ⟨si, ci, by rw [List.getElem?_append_left (by rw [a1]; exact hlt)]; exact h1, h2, h3.below hb⟩
      · obtain ⟨si, ci, h1, h2, h3⟩ := b4 (i - na) (by omega)
        rw [if_neg hlt]
        exact ⟨si, ci, by rw [List.getElem?_append_right (by rw [a1]; omega), a1]; exact h1, h2, h3.below hb⟩
end Go.Proofs.YtoljnogpegemjaaDoor
