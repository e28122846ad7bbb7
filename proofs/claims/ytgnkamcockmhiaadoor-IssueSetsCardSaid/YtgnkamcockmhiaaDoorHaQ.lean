/- The hash of sha, block by block. No program here; no condition. -/
import Derived.Test.YtgnkamcockmhiaaDoorHaP
namespace Go.Proofs.YtgnkamcockmhiaaDoor.Ha
open Go.RowKit

theorem S.take_len (s : S) (x : Int) : (s.take x).h.length = s.h.length ∧ (s.take x).b.length = s.b.length := by
  unfold S.take
  split
  · exact ⟨comp_len _ _, by simp⟩
  · exact ⟨rfl, by simp⟩
theorem S.all_len : ∀ (xs : List Int) (s : S), (s.all xs).h.length = s.h.length ∧ (s.all xs).b.length = s.b.length
  | [], _ => ⟨rfl, rfl⟩
  | x :: xs, s => by
    have := S.all_len xs (s.take x)
    have h := S.take_len s x
    exact ⟨this.1.trans h.1, this.2.trans h.2⟩
theorem set_mid (a b : List Int) (i : Nat) (x : Int) (ha : a.length = i) (hb : i < b.length) : (a ++ b.drop i).set i x = a ++ [x] ++ b.drop (i + 1) := by
  rw [List.set_append_right _ _ (by omega), ha, Nat.sub_self, List.drop_eq_getElem_cons hb, List.set_cons_zero]
  simp
theorem S.all_pre (s : S) (bl : List Int) (hn : s.n = 0) (hb : s.b.length = 64) (hl : bl.length = 64) : ∀ i, i < 64 → s.all (bl.take i) = ⟨s.h, bl.take i ++ s.b.drop i, i⟩ := by
  intro i
  induction i with
  | zero =>
    intro _
    obtain ⟨h, b, n⟩ := s
    simp only at hn
    subst hn
    simp [S.all]
  | succ i ih =>
    intro hi
    have e : bl.take (i + 1) = bl.take i ++ [bl.getD i 0] := by
      rw [List.take_succ_eq_append_getElem (by omega)]
      simp [List.getD, show i < bl.length by omega]
    rw [e, S.all_snoc, ih (by omega), S.take, if_neg (by show ¬ i + 1 = _; omega)]
    simp only
    rw [set_mid _ _ _ _ (by simp; omega) (by omega)]
theorem S.all_block (s : S) (bl : List Int) (hn : s.n = 0) (hb : s.b.length = 64) (hl : bl.length = 64) : s.all bl = ⟨comp s.h bl, bl, 0⟩ := by
  have e : bl = bl.take (64 - 1) ++ [bl.getD (64 - 1) 0] := by
    have : bl.take (64 - 1 + 1) = bl.take (64 - 1) ++ [bl.getD (64 - 1) 0] := by
      rw [List.take_succ_eq_append_getElem (by omega)]
      simp [List.getD, hl]
    rw [← this, List.take_of_length_le (by omega)]
  have hd : (bl.take (64 - 1) ++ s.b.drop (64 - 1)).set (64 - 1) (bl.getD (64 - 1) 0) = bl := by
    rw [set_mid _ _ _ _ (by simp; omega) (by omega), List.drop_eq_nil_of_le (by omega), List.append_nil, ← e]
  have h1 : s.all bl = (s.all (bl.take (64 - 1))).take (bl.getD (64 - 1) 0) := by rw [← S.all_snoc, ← e]
  rw [h1, S.all_pre s bl hn hb hl _ (by omega), S.take, if_pos rfl]
  simp only [hd]

def blkOf (pm : List Int) (q : Nat) : List Int := (pm.drop (64 * q)).take 64
def hsOf (pm : List Int) (q : Nat) : List Int := (S.new.all (pm.take (64 * q))).h
theorem hs_len (pm : List Int) (q : Nat) : (hsOf pm q).length = 8 := (S.all_len _ _).1
theorem hs_zero (pm : List Int) : hsOf pm 0 = H0 := by simp [hsOf, S.all, S.new]
theorem hs_succ (pm : List Int) (q : Nat) (h : 64 * (q + 1) ≤ pm.length) : hsOf pm (q + 1) = comp (hsOf pm q) (blkOf pm q) := by
  unfold hsOf blkOf
  have e : pm.take (64 * (q + 1)) = pm.take (64 * q) ++ (pm.drop (64 * q)).take 64 := by rw [Nat.mul_succ, List.take_add]
  rw [e, S.all_append, S.all_block _ _ ?_ ?_ ?_]
  · rw [S.all_n _ _ S.Ok.new.n, List.length_take, Nat.min_eq_left (by omega)]
    show (0 + 64 * q) % 64 = 0
    omega
  · rw [(S.all_len _ _).2]; simp [S.new]
  · rw [List.length_take, List.length_drop]; omega
theorem hs_end (pm : List Int) (q : Nat) (h : pm.length = 64 * q) : (S.new.all pm).h = hsOf pm q := by
  unfold hsOf
  rw [List.take_of_length_le (by omega)]
theorem blk_get (pm : List Int) (q j : Nat) (hj : j < 64) : (blkOf pm q).getD j 0 = pm.getD (64 * q + j) 0 := by
  unfold blkOf
  simp only [List.getD, List.getElem?_take, hj, if_true, List.getElem?_drop]
theorem tail_len (n : Nat) : ∃ q, n + (tail n).length = 64 * q := by
  refine ⟨(n + (tail n).length) / 64, ?_⟩
  have : (tail n).length = 1 + (2 * 64 - 8 - 1 - n % 64) % 64 + 8 := by simp [tail]; omega
  rw [this]
  omega
theorem tail_bytes (n : Nat) : ∀ x ∈ tail n, 0 ≤ x ∧ x ≤ 255 := by
  intro x hx
  simp only [tail, List.mem_append, List.mem_cons, List.mem_replicate, List.mem_map, List.mem_range] at hx
  rcases hx with ((rfl | ⟨_, rfl⟩) | ⟨_, rfl⟩) | ⟨i, _, rfl⟩
  all_goals omega

end Go.Proofs.YtgnkamcockmhiaaDoor.Ha
