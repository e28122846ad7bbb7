/- Blocks in another order, or some of them. No program here; no condition. -/
import Derived.Test.YtcecgbjpmegljaaBlk
namespace Go.Proofs.Ytcecgbjpmegljaa
open Go.RowKit

theorem Blk.sel {w wr : World} {l : List (Nat × Array Value × TypeId)} (h : Blk w wr l) (idx : List Nat) (hn : idx.Nodup) (hl : (idx.all fun i => decide (i < l.length)) = true) : Blk w wr (idx.map fun i => l.getD i (0, #[], 0)) := by
  have key : ∀ (i : Nat) (x : Nat × Array Value × TypeId), (idx.map fun i => l.getD i (0, #[], 0))[i]? = some x → ∃ k, idx[i]? = some k ∧ l[k]? = some x := by
    intro i x hx
    rw [List.getElem?_map, Option.map_eq_some_iff] at hx
    obtain ⟨k, hk, rfl⟩ := hx
    refine ⟨k, hk, ?_⟩
    have := of_decide_eq_true (List.all_eq_true.1 hl k (List.mem_of_getElem? hk))
    rw [List.getD, List.getElem?_eq_getElem this]
    rfl
  refine ⟨fun i g c t hi => ?_, fun i j g c t c' t' hi hj => ?_, h.below⟩
  · obtain ⟨k, _, hk⟩ := key _ _ hi
    exact h.mem k g c t hk
  · obtain ⟨k, e1, hk⟩ := key _ _ hi
    obtain ⟨m, e2, hm⟩ := key _ _ hj
    have := h.inj k m _ _ _ _ _ hk hm
    subst this
    have hi' := (List.getElem?_eq_some_iff.1 e1)
    have hj' := (List.getElem?_eq_some_iff.1 e2)
    obtain ⟨a1, a2⟩ := hi'
    obtain ⟨b1, b2⟩ := hj'
    exact (List.getElem_inj hn).1 (a2.trans b2.symm)
end Go.Proofs.Ytcecgbjpmegljaa
