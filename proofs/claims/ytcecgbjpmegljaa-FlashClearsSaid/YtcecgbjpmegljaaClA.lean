/- What programs of whole lists of bytes make of a flash, in whatever order they come. No program here; no condition. -/
import Derived.Test.YtcecgbjpmegljaaFlK
import Derived.Test.YtcecgbjpmegljaaSrcL
namespace Go.Proofs.Ytcecgbjpmegljaa
open Go.RowKit

/-- One byte behind a program of a list from place 0 on. -/
def cl (k : Nat) (x : Int) (xs : List Int) : Int := if k < xs.length then andB xs k x else x
theorem and_and (x a b : Int) : bits .and .u8 (bits .and .u8 x a) b = bits .and .u8 (bits .and .u8 x b) a := by
  have h : ∀ x y : Int, bits .and .u8 x y = ((BitVec.ofInt 8 x &&& BitVec.ofInt 8 y).toNat : Int) := by
    intro x y
    show IntKind.u8.wrap ((BitVec.ofInt 8 x &&& BitVec.ofInt 8 y).toNat : Int) = _
    rw [IntKind.wrap_u8]
    have := (BitVec.ofInt 8 x &&& BitVec.ofInt 8 y).isLt
    omega
  have h2 : ∀ v : BitVec 8, BitVec.ofInt 8 (v.toNat : Int) = v := by
    intro v
    rw [BitVec.ofInt_natCast, BitVec.ofNat_toNat, BitVec.setWidth_eq]
  rw [h x a, h x b, h, h, h2, h2, BitVec.and_assoc, BitVec.and_comm (BitVec.ofInt 8 a), ← BitVec.and_assoc]
theorem cl_comm (k : Nat) (x : Int) (a b : List Int) : cl k (cl k x a) b = cl k (cl k x b) a := by
  unfold cl andB
  by_cases h1 : k < a.length <;> by_cases h2 : k < b.length
  · simp only [if_pos h1, if_pos h2]; exact and_and _ _ _
  all_goals simp only [h1, h2, if_true, if_false]
theorem cl_front (k : Nat) (a : List Int) : ∀ (L : List (List Int)) (x : Int), L.foldl (cl k) (cl k x a) = cl k (L.foldl (cl k) x) a
  | [], _ => rfl
  | b :: L, x => by rw [List.foldl_cons, List.foldl_cons, cl_comm, cl_front k a L]
theorem cl_swap (k : Nat) (A : List (List Int)) : ∀ (B : List (List Int)) (x : Int), (A ++ B).foldl (cl k) x = (B ++ A).foldl (cl k) x
  | [], x => by simp
  | b :: B, x => by
    have := cl_swap k A B (cl k x b)
    rw [List.cons_append, List.foldl_cons, ← this]
    rw [List.foldl_append, List.foldl_cons, List.foldl_append, cl_front, cl_front, cl_front]
theorem cl_turn (k : Nat) (L : List (List Int)) (o : Nat) (x : Int) : (L.drop o ++ L.take o).foldl (cl k) x = L.foldl (cl k) x := by
  rw [cl_swap, List.take_append_drop]
theorem cl_far (k : Nat) : ∀ (L : List (List Int)) (x : Int), (∀ l ∈ L, l.length ≤ k) → L.foldl (cl k) x = x
  | [], _, _ => rfl
  | l :: L, x, h => by
    have h1 : cl k x l = x := by unfold cl; rw [if_neg (by have := h l (List.mem_cons_self ..); omega)]
    rw [List.foldl_cons, h1]
    exact cl_far k L x (fun y hy => h y (List.mem_cons_of_mem _ hy))

/-- A new flash of two sectors, programmed with each list. -/
def clS (L : List (List Int)) : Fl := L.foldl (fun s xs => s.prog 0 xs) (Fl.new 2)
theorem clS_snoc (L : List (List Int)) (i : Nat) (h : i < L.length) : clS (L.take (i + 1)) = (clS (L.take i)).prog 0 (L.getD i []) := by
  rw [take_snoc L i [] h, clS, List.foldl_append]
  rfl
theorem clS_calm : ∀ (n : Nat) (L : List (List Int)), L.length = n → Calm (clS L) 512
  | 0, L, h => by
    rw [List.eq_nil_of_length_eq_zero h]
    exact Calm.new 2 512 rfl
  | n + 1, L, h => by
    have e := clS_snoc L n (by omega)
    rw [List.take_of_length_le (by omega)] at e
    rw [e]
    exact (clS_calm n (L.take n) (by simp; omega)).prog _ _
theorem clS_facts : ∀ (n : Nat) (L : List (List Int)), L.length = n → n ≤ 100 → (∀ l ∈ L, l.length ≤ 256) → (clS L).er = 0 ∧ (clS L).pr = n ∧ ∀ k, k < 512 → (clS L).b.getD k 0 = L.foldl (cl k) 255
  | 0, L, h, _, _ => by
    rw [List.eq_nil_of_length_eq_zero h]
    refine ⟨rfl, rfl, fun k hk => ?_⟩
    show (List.replicate 512 (255 : Int)).getD k 0 = 255
    simp only [List.getD, List.getElem?_replicate, hk, if_true, Option.getD_some]
  | n + 1, L, h, hn, hl => by
    have e := clS_snoc L n (by omega)
    rw [List.take_of_length_le (by omega)] at e
    obtain ⟨f1, f2, f3⟩ := clS_facts n (L.take n) (by simp; omega) (by omega) (fun l hm => hl l (List.mem_of_mem_take hm))
    have hc := clS_calm n (L.take n) (by simp; omega)
    have hx : (L.getD n []).length ≤ 256 := hl _ (by
      have : n < L.length := by omega
      simp only [List.getD, List.getElem?_eq_getElem this, Option.getD_some]
      exact List.getElem_mem this)
    have eL : L = L.take n ++ [L.getD n []] := by
      have := take_snoc L n [] (by omega)
      rwa [List.take_of_length_le (by omega)] at this
    generalize L.getD n [] = x at e hx eL
    generalize L.take n = M at e f1 f2 f3 hc eL
    have hin : (clS M).progIn 0 x.length = true := by
      unfold Fl.progIn
      rw [hc.dead, hc.len]
      show inB 512 0 x.length = true
      rw [inB_iff]
      omega
    have hop : (clS M).op ≠ 0 := by rw [hc.op]; decide
    have hp : (clS M).prog 0 x = { (clS M).step with b := upd (clS M).b 0 x.length (andB x), pr := (clS M).pr + 1 } := by
      unfold Fl.prog
      rw [if_pos hin]
      simp only [Fl.opN, if_neg hop, hc.goes, if_true]
      have h3 : min ((clS M).pr + 1) most = (clS M).pr + 1 := by rw [f2]; unfold most; omega
      rw [h3]
      rfl
    rw [e, hp]
    refine ⟨by show (clS M).step.er = 0; rw [Fl.step_er]; exact f1, by show (clS M).pr + 1 = _; rw [f2]; omega, fun k hk => ?_⟩
    show (upd (clS M).b 0 x.length (andB x)).getD k 0 = _
    rw [upd_getD _ _ _ _ _ (by rw [hc.len]; exact hk), f3 k hk, eL, List.foldl_append]
    show _ = cl k (M.foldl (cl k) 255) x
    unfold cl
    by_cases hkx : k < x.length
    · rw [if_pos (by omega), if_pos hkx, Nat.sub_zero]
    · rw [if_neg (by omega), if_neg hkx]
theorem clS_same (L : List (List Int)) (o : Nat) (hn : L.length ≤ 100) (hl : ∀ l ∈ L, l.length ≤ 256) : (clS (L.drop o ++ L.take o)).b = (clS L).b := by
  have hlm : (L.drop o ++ L.take o).length = L.length := by simp; omega
  have h1 := clS_facts _ (L.drop o ++ L.take o) rfl (by omega) (fun l hm => by
    rcases List.mem_append.1 hm with h | h
    · exact hl l (List.mem_of_mem_drop h)
    · exact hl l (List.mem_of_mem_take h))
  have h2 := clS_facts _ L rfl hn hl
  have l1 := (clS_calm _ (L.drop o ++ L.take o) rfl).len
  have l2 := (clS_calm _ L rfl).len
  apply List.ext_getElem (by rw [l1, l2])
  intro k k1 k2
  have e1 := h1.2.2 k (by omega)
  have e2 := h2.2.2 k (by omega)
  rw [cl_turn] at e1
  simp only [List.getD, List.getElem?_eq_getElem k1, List.getElem?_eq_getElem k2, Option.getD_some] at e1 e2
  rw [e1, e2]
/-- The first bytes, as the law reckons them: the first k of them behind list i. -/
def clW (L : List (List Int)) (i k : Nat) : List Int := (List.range 256).map fun j => if j < k then (L.take (i + 1)).foldl (cl j) 255 else (L.take i).foldl (cl j) 255
theorem clW_len (L : List (List Int)) (i k : Nat) : (clW L i k).length = 256 := by simp [clW]
theorem clW_zero (L : List (List Int)) : clW L 0 0 = List.replicate 256 255 := by
  unfold clW
  apply List.ext_getElem
  · rw [List.length_map, List.length_range, List.length_replicate]
  · intro i h1 h2
    simp only [List.getElem_map, List.getElem_replicate, Nat.not_lt_zero, if_false, List.take_zero, List.foldl_nil]
theorem clW_next (L : List (List Int)) (i k : Nat) (h : i < L.length) (hk : (L.getD i []).length ≤ k) : clW L i k = clW L (i + 1) 0 := by
  unfold clW
  apply List.map_congr_left
  intro j _
  rw [if_neg (Nat.not_lt_zero j)]
  by_cases hj : j < k
  · rw [if_pos hj]
  · rw [if_neg hj, take_snoc L i [] h, List.foldl_append]
    show _ = cl j _ _
    unfold cl
    rw [if_neg (by omega)]
theorem clW_set (L : List (List Int)) (i k : Nat) (h : i < L.length) (hk : k < (L.getD i []).length) (hk2 : k < 256) : (clW L i k).set k (bits .and .u8 ((clW L i k).getD k 0) ((L.getD i []).getD k 0)) = clW L i (k + 1) := by
  have e : (clW L i k).getD k 0 = (L.take i).foldl (cl k) 255 := by
    simp only [clW, List.getD, List.getElem?_map, List.getElem?_range hk2, Option.map_some, Option.getD_some, Nat.lt_irrefl, if_false]
  rw [e]
  unfold clW
  apply List.ext_getElem
  · simp
  · intro j h1 h2
    rw [List.getElem_set]
    simp only [List.getElem_map, List.getElem_range]
    by_cases e : k = j
    · subst e
      rw [if_pos rfl, if_pos (by omega), take_snoc L i [] h, List.foldl_append]
      show _ = cl k _ _
      unfold cl andB
      rw [if_pos hk]
    · rw [if_neg e]
      by_cases hj : j < k
      · rw [if_pos hj, if_pos (by omega)]
      · rw [if_neg hj, if_neg (by omega)]
theorem clW_end (L : List (List Int)) (hn : L.length ≤ 100) (hl : ∀ l ∈ L, l.length ≤ 256) : clW L L.length 0 = (clS L).read 0 256 := by
  have h2 := clS_facts _ L rfl hn hl
  have l2 := (clS_calm _ L rfl).len
  unfold Fl.read clW
  simp only [Int.toNat_zero, List.drop_zero]
  apply List.ext_getElem
  · simp [l2]
  · intro j k1 k2
    simp only [List.length_map, List.length_range] at k1
    have e2 := h2.2.2 j (by omega)
    have : j < (clS L).b.length := by omega
    simp only [List.getD, List.getElem?_eq_getElem this, Option.getD_some] at e2
    simp [e2, List.take_of_length_le]
theorem clS_erased (L : List (List Int)) (hn : L.length ≤ 100) (hl : ∀ l ∈ L, l.length ≤ 256) : ((clS L).erase 0).b = List.replicate 512 255 ∧ ((clS L).erase 0).er = 1 ∧ ((clS L).erase 0).pr = L.length ∧ (clS L).eraseOk 0 = true := by
  obtain ⟨f1, f2, f3⟩ := clS_facts _ L rfl hn hl
  have hc := clS_calm _ L rfl
  have hin : (clS L).eraseIn 0 = true := by
    unfold Fl.eraseIn
    rw [hc.dead, hc.len]
    decide
  have hop : (clS L).op ≠ 0 := by rw [hc.op]; decide
  have hp : (clS L).erase 0 = { (clS L).step with b := upd (clS L).b 0 256 (fun _ _ => 255), er := 1 } := by
    unfold Fl.erase
    rw [if_pos hin]
    simp only [Fl.opN, if_neg hop, hc.goes, if_true]
    have h3 : min ((clS L).er + 1) most = 1 := by rw [f1]; unfold most; omega
    rw [h3]
    rfl
  rw [hp]
  refine ⟨?_, rfl, by show (clS L).step.pr = _; rw [Fl.step_pr]; exact f2, by rw [hc.eraseOk]; decide⟩
  apply List.ext_getElem
  · show (upd (clS L).b 0 256 (fun _ _ => 255)).length = _
    rw [upd_length, hc.len, List.length_replicate]
  · intro k k1 k2
    have k3 : k < 512 := by rwa [List.length_replicate] at k2
    rw [List.getElem_replicate]
    have k4 : k < (clS L).b.length := by rw [hc.len]; exact k3
    show (upd (clS L).b 0 256 (fun _ _ => 255))[k] = 255
    rw [upd_get _ _ _ _ _ k4]
    split
    · rfl
    · have e2 := f3 k k3
      rw [cl_far k L 255 (fun l hm => by have := hl l hm; omega)] at e2
      simpa only [List.getD, List.getElem?_eq_getElem k4, Option.getD_some] using e2
end Go.Proofs.Ytcecgbjpmegljaa
