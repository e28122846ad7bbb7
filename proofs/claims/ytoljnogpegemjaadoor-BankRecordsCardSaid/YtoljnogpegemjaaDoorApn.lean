/- append onto bytes that fill their block: new memory. Condition: the bytes lie there. -/
import Derived.Test.YtoljnogpegemjaaDoorStb
import Derived.Test.YtoljnogpegemjaaDoorL1
namespace Go.Proofs.YtoljnogpegemjaaDoor.Wr
open Go.RowKit
set_option linter.unusedSimpArgs false
set_option linter.unusedVariables false

theorem info_u8w : (Tryd.prog.info? 5).map (fun i => (i.zero, i.size, i.bytes)) = some (some (.int .u8 0), 1, 1) := by kernel_rfl
/-- append onto all of an array: new memory. -/
theorem step_append_new {w : World} {ops : Array Oper} {o : Oper} {a : Act} {K : Act → World → Prop} {Q : Exit → Act → World → Prop} {E : Prop} (hgd : o.guard = none) (s x : Operand)
    (ho : o.op = .call { callee := .builtin .append, args := #[s, x], argTypes := #[24, 24] }) (g n m c : Nat) (a2 : Addr) (xs ys : List Int) (hs : a.eval s = .slice (some ⟨g, 0, none⟩) n n) (hx : a.eval x = .slice (some a2) m c)
    (h1 : Src w (some ⟨g, 0, none⟩) n xs) (h2 : Src w (some a2) m ys) (hm : 0 < m) (hle : n + m ≤ 1099511627776)
    (h : ∀ g' cap w', Src w' (some ⟨g', 0, none⟩) (n + m) (xs ++ ys) → n + m ≤ cap → Below w.heap.size w w' → K (a.put o.dst (.slice (some ⟨g', 0, none⟩) (n + m) cap)) w') :
    if Region.wanted o (yielded ops a.tmps) = true then Oper.wp Tryd.prog o a w K Q else E := by
  have hw : Region.wanted o (yielded ops a.tmps) = true := by simp [Region.wanted, hgd]
  rw [if_pos hw]
  obtain ⟨i0, hi, hz⟩ := Option.map_eq_some_iff.1 info_u8w
  simp only [Prod.mk.injEq] at hz
  obtain ⟨z0, z1, z2⟩ := hz
  obtain ⟨v', w', hrun, hown, hgr⟩ := run_append_arg_grows (P := Tryd.prog) w 24 o.type 5 i0 (.int .u8 0) 1 1 Tryd.underlying24 hi z0 z1 z2 rfl (by decide) ⟨g, 0, none⟩ n n (xs.map (Value.int .u8)) (by simp [h1.len]) (src_news h1 _ rfl) a2 m c (ys.map (Value.int .u8)) (by simp [h2.len]) (src_news h2 _ rfl) (by omega) (by unfold maxLen; omega) (by omega)
  have hb : Below w.heap.size w w' := ⟨hgr.os, hgr.tape, hgr.output, hgr.size, fun k hk => hgr.block k hk (by simp)⟩
  unfold Oper.wp execOp
  simp only [ho, resolve, invoke, builtin, Sem.run_bind, Sem.run_pure, Result.andThen_ok, List.map_toArray, List.map_cons, List.map_nil, hs, hx, hrun]
  rcases hown.2 with ⟨-, h0⟩ | ⟨g', cap, cur, rfl, -, -, hcap, -⟩
  · exact absurd h0 (by omega)
  · refine h g' cap w' ⟨by rw [List.length_append, h1.len, h2.len], fun j hj => ⟨_, rfl, ?_⟩⟩ hcap hb
    rw [← List.map_append] at hown
    refine World.ownsRow.cells hown (g := g') rfl j _ ?_
    have hj2 : j < (xs ++ ys).length := by rw [List.length_append, h1.len, h2.len]; exact hj
    rw [List.getElem?_map, List.getD, List.getElem?_eq_getElem hj2]
    rfl
end Go.Proofs.YtoljnogpegemjaaDoor.Wr
