/- portcullislaw18: num, Same, alive. Condition of Same: the two lists are one. -/
import Derived.Test.YtdaaigodpglnnaaCutB
import Derived.Test.YtdaaigodpglnnaaM1
namespace Go.Proofs.Ytdaaigodpglnnaa
open Go.RowKit

theorem num18_any (e : Int) (w : World) : Calls Try.prog 16 #[.int .i64 e] w fun r w' => r = .returned (.int .i64 e) ∧ w = w' := by
  go_enter Try.func16, Try.ntmps16
  go_wp2
  go_ret
  exact ⟨rfl, rfl⟩

theorem OwnL.at {w : World} {B : Nat} {v : Value} {L : List (List Int)} (h : OwnL w B v L) : ∃ sa c, v = .slice sa L.length c ∧ L.length ≤ c ∧ ∀ i, i < L.length → ∃ a g c' sp, sa = some a ∧ w.cell? (a.add i) = some (.slice (some ⟨g, 0, none⟩) (L.getD i []).length c') ∧ w.heap[g]? = some (.cells (row8 (L.getD i []) sp) 5 (0, 0)) ∧ c' = (L.getD i []).length + sp.length ∧ Owns w B (.slice (some ⟨g, 0, none⟩) (L.getD i []).length c') (L.getD i []) := by
  obtain ⟨vs, ⟨h1, h2⟩, h3, h4⟩ := h
  rcases h2 with ⟨rfl, h0⟩ | ⟨g, cap, cur, rfl, hB, hg, hn, hm, hs, ht⟩
  · have : L = [] := List.eq_nil_of_length_eq_zero h0
    subst this
    exact ⟨none, 0, rfl, by simp, fun i hi => absurd hi (by simp)⟩
  · refine ⟨_, cap, rfl, hn, fun i hi => ?_⟩
    have ho := h4 i hi
    obtain ⟨g', c', sp', e, hB', hg', hc', hm'⟩ := ho
    refine ⟨_, g', c', sp', rfl, ?_, hg', hc', ⟨g', c', sp', rfl, hB', hg', hc', hm'⟩⟩
    have e1 : (⟨g, 0, none⟩ : Addr).add i = ⟨g, i, none⟩ := by unfold Addr.add; split <;> simp_all
    have hl := congrArg (fun l => l[i]?) ht
    simp only [Nat.mul_one, List.getElem?_take, hi, if_true] at hl
    rw [e1, cell_blk hg]
    have hv : vs[i]? = some (vs.getD i undef) := by simp [List.getD, show i < vs.length by omega]
    rw [hv, e] at hl
    simpa using hl

set_option maxRecDepth 100000 in
set_option maxHeartbeats 1000000 in
theorem same_any (B B' : Nat) (v v' : Value) (L : List (List Int)) (w : World) (h1 : OwnL w B v L) (h2 : OwnL w B' v' L) (hl : L.length ≤ 1099511627776) :
    Calls Try.prog 17 #[v, v'] w fun e w' => e = .returned (.bool true) ∧ ∃ k, w' = w.drewN k := by
  obtain ⟨sa, c, rfl, hc, ha⟩ := h1.at
  obtain ⟨sb, d, rfl, hd, hb⟩ := h2.at
  have HA := Lib.hid ha
  have HB := Lib.hid hb
  obtain ⟨n, hn⟩ : ∃ n, n = L.length := ⟨_, rfl⟩
  rw [← hn] at HA HB hc hd hl ⊢
  clear ha hb h1 h2 hn
  go_enter Try.func17, Try.ntmps17
  go_wp2_with fail
  go_loopw [5] (fun i wr => ∃ j : Nat, j ≤ n ∧ i = .int .i64 j ∧ ∃ k, wr = w.drewN k) (fun i _ => n - (intOf i).toNat)
  case atStart => exact ⟨0, Nat.zero_le _, rfl, 0, rfl⟩
  case round =>
    obtain ⟨j, hj, rfl, k, rfl⟩ := hrel
    by_cases hlt : j < n
    · obtain ⟨a, g, c1, sp, rfl, x0, -, -, o1⟩ := HA.out j hlt
      obtain ⟨b, g', c2, sp', rfl, y0, -, -, o2⟩ := HB.out j hlt
      have q1 : ∀ n, (convert 22 9 (.slice (some ⟨g, 0, none⟩) (L.getD j []).length c1)).run Try.prog (w.drewN n) = .ok (.string (strOfNums (L.getD j []))) (w.drewN n) := fun n => (o1.drewN n).str
      have q2 : ∀ n, (convert 22 9 (.slice (some ⟨g', 0, none⟩) (L.getD j []).length c2)).run Try.prog (w.drewN n) = .ok (.string (strOfNums (L.getD j []))) (w.drewN n) := fun n => (o2.drewN n).str
      clear o1 o2
      generalize strOfNums (L.getD j []) = S at q1 q2
      generalize (L.getD j []).length = m at q1 q2 x0 y0
      go_wp2_with fail
      go_quiet (fail)
      go_wp2_with fail
      go_roundw
      case rel => exact ⟨j + 1, by omega, by go_num, _, rfl⟩
      case measure => simp [intOf]; omega
    · go_wp2_with fail
      (try simp only [Exit.inBlock, Exit.then])
      go_ret
      exact ⟨rfl, _, rfl⟩

end Go.Proofs.Ytdaaigodpglnnaa
