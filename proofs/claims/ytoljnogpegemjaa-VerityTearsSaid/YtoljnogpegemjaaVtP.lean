/- A block's write in plain words, and what a write leaves in which the power fails. No program here; no condition. -/
import Derived.Test.YtoljnogpegemjaaF1
namespace Go.Proofs.Ytoljnogpegemjaa
open Go.RowKit
set_option linter.unusedVariables false

/-- What a write of n bytes in sector k makes of a flash, and what it answers. -/
def vw (s : Fl) (k : Int) (xs : List Int) : Fl := if s.eraseOk k then (s.erase k).prog (k * 256) xs else s.erase k
def vwE (s : Fl) (k : Int) (n : Int) : Int := if s.eraseOk k then (if (s.erase k).progOk (k * 256) n then 0 else 8) else 8
/-- What stands in a block's place when the power fails in its write: ahead a, to be written b. -/
def wantL (a b : List Int) (o c : Int) : List Int := (List.range 80).map fun (k : Nat) => if o = 1 ∧ (k : Int) < c then b.getD k 0 else if (o = 0 ∧ (k : Int) < c) ∨ o = 1 then 255 else a.getD k 0
theorem wantL_len (a b : List Int) (o c : Int) : (wantL a b o c).length = 80 := by simp [wantL]
theorem wantL_get (a b : List Int) (o c : Int) (k : Nat) (h : k < 80) : (wantL a b o c).getD k 0 = if o = 1 ∧ (k : Int) < c then b.getD k 0 else if (o = 0 ∧ (k : Int) < c) ∨ o = 1 then 255 else a.getD k 0 := by simp [wantL, List.getD, h]
theorem vw_len (s : Fl) (k : Int) (xs : List Int) : (vw s k xs).b.length = s.b.length := by
  unfold vw
  split
  · rw [Fl.prog_len, Fl.erase_len]
  · exact Fl.erase_len _ _
theorem vw_Ok {s : Fl} (h : s.Ok) (k : Int) (xs : List Int) : (vw s k xs).Ok := by
  unfold vw
  split
  · exact (h.erase _).prog _ _
  · exact h.erase _
theorem start_calm {s : Fl} {L : Nat} (h : s.b.length = L) : Calm s.start L := ⟨h, rfl, rfl⟩
theorem vwE_calm {s : Fl} {L : Nat} (h : Calm s L) (K : Nat) (hK : 256 * K + 256 ≤ L) : s.eraseOk K = true ∧ vwE s K 80 = 0 := by
  have h1 : s.eraseOk K = true := by rw [h.eraseOk]; simp; omega
  refine ⟨h1, ?_⟩
  rw [vwE, if_pos h1, (h.erase K).progOk, if_pos (inB_iff.2 (by omega))]
theorem tear {s : Fl} {L : Nat} (h : Calm s L) (K : Nat) (hK : 256 * K + 256 ≤ L) (a b : List Int) (hb : b.length = 80) (mb : ∀ x ∈ b, 0 ≤ x ∧ x ≤ 255)
    (hg : ∀ k, k < 80 → s.b.getD (256 * K + k) 0 = a.getD k 0) (o c : Int) (ho : o = 0 ∨ o = 1) :
    vwE (s.plan o c) K 80 = 8 ∧ (vw (s.plan o c) K b).start.read ((K : Int) * 256) 80 = wantL a b o c := by
  have hin : (s.plan o c).eraseIn K = true := by
    simp [Fl.eraseIn, Fl.plan, h.dead, h.len]; omega
  have hl := h.len
  have hread : ∀ t : Fl, t.b.length = L → (∀ k, k < 80 → t.b.getD (256 * K + k) 0 = (wantL a b o c).getD k 0) → t.start.read ((K : Int) * 256) 80 = wantL a b o c := by
    intro t ht hx
    have := read_eq (s := t.start) (L := L) ht (256 * K) 80 (by omega) (wantL a b o c) (wantL_len _ _ _ _) hx
    rw [show ((K : Int) * 256) = ((256 * K : Nat) : Int) by omega]
    exact this
  have bK : ∀ k, k < 80 → 0 ≤ b.getD k 0 ∧ b.getD k 0 ≤ 255 := by
    intro k hk
    have : k < b.length := by omega
    simp only [List.getD, List.getElem?_eq_getElem this, Option.getD_some]
    exact mb _ (List.getElem_mem this)
  rcases ho with rfl | rfl
  · have hop : (s.plan 0 c).op = 0 := by show max (-1) (0 : Int) = 0; decide
    have hgo : (s.plan 0 c).goes = false := by rw [Fl.goes, hop]; rfl
    have h1 : (s.plan 0 c).eraseOk K = false := by simp [Fl.eraseOk, hgo]
    refine ⟨by rw [vwE, h1]; rfl, ?_⟩
    have e : vw (s.plan 0 c) K b = (s.plan 0 c).erase K := by rw [vw, h1]; rfl
    rw [e]
    refine hread _ (by rw [Fl.erase_len]; exact hl) fun k hk => ?_
    have hN : (s.plan 0 c).opN 256 = min (max 0 c) 256 := by rw [Fl.opN, if_pos hop]; rfl
    have e2 : ((s.plan 0 c).erase K).b = upd s.b (256 * K) (min (max 0 c) 256).toNat (fun _ _ => 255) := by
      rw [Fl.erase, if_pos hin, hN]
      rfl
    rw [e2, upd_getD _ _ _ _ _ (by omega), wantL_get _ _ _ _ _ hk, hg k hk, if_neg (show ¬ ((0 : Int) = 1 ∧ (k : Int) < c) by omega)]
    by_cases hc : (k : Int) < c
    · rw [if_pos (show 256 * K ≤ 256 * K + k ∧ 256 * K + k < 256 * K + (min (max 0 c) 256).toNat by omega), if_pos (show ((0 : Int) = 0 ∧ (k : Int) < c) ∨ (0 : Int) = 1 from .inl ⟨rfl, hc⟩)]
    · rw [if_neg (show ¬ (256 * K ≤ 256 * K + k ∧ 256 * K + k < 256 * K + (min (max 0 c) 256).toNat) by omega), if_neg (show ¬ (((0 : Int) = 0 ∧ (k : Int) < c) ∨ (0 : Int) = 1) by omega)]
  · have hop : (s.plan 1 c).op = 1 := by show max (-1) (1 : Int) = 1; decide
    have hgo : (s.plan 1 c).goes = true := by rw [Fl.goes, hop]; rfl
    have h1 : (s.plan 1 c).eraseOk K = true := by simp [Fl.eraseOk, hgo, hin]
    have e3 : ((s.plan 1 c).erase K).op = 0 ∧ ((s.plan 1 c).erase K).cut = c ∧ ((s.plan 1 c).erase K).dead = false := by
      have hs : (s.plan 1 c).step = { (s.plan 1 c) with op := 0 } := by rw [Fl.step, hop]; rfl
      rw [Fl.erase, if_pos hin, hs]
      exact ⟨rfl, rfl, h.dead⟩
    have hl2 : ((s.plan 1 c).erase K).b.length = L := by rw [Fl.erase_len]; exact hl
    have hin2 : ((s.plan 1 c).erase K).progIn ((K : Int) * 256) 80 = true := by
      rw [Fl.progIn, e3.2.2, hl2]
      exact inB_iff.2 (by omega)
    have h2 : ((s.plan 1 c).erase K).progOk ((K : Int) * 256) 80 = false := by
      simp [Fl.progOk, Fl.goes, e3.1]
    refine ⟨by rw [vwE, if_pos h1, h2]; rfl, ?_⟩
    have e : vw (s.plan 1 c) K b = ((s.plan 1 c).erase K).prog ((K : Int) * 256) b := by rw [vw, if_pos h1]
    rw [e]
    refine hread _ (by rw [Fl.prog_len]; exact hl2) fun k hk => ?_
    have hN : (s.plan 1 c).opN 256 = 256 := by rw [Fl.opN, hop]; rfl
    have e2 : ((s.plan 1 c).erase K).b = upd s.b (256 * K) 256 (fun _ _ => 255) := by
      rw [Fl.erase, if_pos hin, hN]
      rfl
    have hN2 : ((s.plan 1 c).erase K).opN 80 = min (max 0 c) 80 := by rw [Fl.opN, if_pos e3.1, e3.2.1]
    have e4 : (((s.plan 1 c).erase K).prog ((K : Int) * 256) b).b = upd ((s.plan 1 c).erase K).b (256 * K) (min (max 0 c) 80).toNat (andB b) := by
      have : ((b.length : Nat) : Int) = 80 := by omega
      rw [Fl.prog, this, if_pos hin2, hN2, show ((K : Int) * 256).toNat = 256 * K by omega]
    rw [e4, upd_getD _ _ _ _ _ (by omega), e2, upd_getD _ _ _ _ _ (by omega), wantL_get _ _ _ _ _ hk, if_pos (show 256 * K ≤ 256 * K + k ∧ 256 * K + k < 256 * K + 256 by omega)]
    by_cases hc : (k : Int) < c
    · rw [if_pos (show 256 * K ≤ 256 * K + k ∧ 256 * K + k < 256 * K + (min (max 0 c) 80).toNat by omega), if_pos (show (1 : Int) = 1 ∧ (k : Int) < c from ⟨rfl, hc⟩), andB, show 256 * K + k - 256 * K = k by omega]
      exact and_255 _ (bK k hk).1 (bK k hk).2
    · rw [if_neg (show ¬ (256 * K ≤ 256 * K + k ∧ 256 * K + k < 256 * K + (min (max 0 c) 80).toNat) by omega), if_neg (show ¬ ((1 : Int) = 1 ∧ (k : Int) < c) by omega), if_pos (show ((1 : Int) = 0 ∧ (k : Int) < c) ∨ (1 : Int) = 1 from .inr rfl)]
theorem vw_calm {s : Fl} {L : Nat} (h : Calm s L) (K : Nat) (hK : 256 * K + 256 ≤ L) (xs : List Int) (hx : xs.length = 80) (mx : ∀ x ∈ xs, 0 ≤ x ∧ x ≤ 255) :
    Calm (vw s K xs) L ∧ (∀ j, j < 80 → (vw s K xs).b.getD (256 * K + j) 0 = xs.getD j 0) ∧ (vw s K xs).read ((K : Int) * 256) 80 = xs ∧ (vw s K xs).readOk ((K : Int) * 256) 80 = true := by
  have e : vw s K xs = (s.erase K).prog ((K * 256 : Nat) : Int) xs := by
    rw [vw, if_pos (vwE_calm h K hK).1, show ((K : Int) * 256) = ((K * 256 : Nat) : Int) by omega]
  have hc : Calm (vw s K xs) L := by rw [e]; exact (h.erase _).prog _ _
  have hg : ∀ j, j < 80 → (vw s K xs).b.getD (256 * K + j) 0 = xs.getD j 0 := by
    intro j hj
    rw [e, h.write_get K xs hx mx hK _ (by omega), if_pos (by omega)]
    congr 1
    omega
  refine ⟨hc, hg, ?_, ?_⟩
  · rw [show ((K : Int) * 256) = ((256 * K : Nat) : Int) by omega]
    exact read_eq hc.len (256 * K) 80 (by omega) xs hx hg
  · rw [hc.readOk]
    exact inB_iff.2 (by omega)
end Go.Proofs.Ytoljnogpegemjaa
