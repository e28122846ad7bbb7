/- Lists of lists of bytes behind one another (append); what a signature is, in plain words. Condition: lists of the call's size. -/
import Derived.Test.YtanjhngehfbpbaaDoorCvD
import Derived.Test.YtanjhngehfbpbaaDoorMb
namespace Go.Proofs.YtanjhngehfbpbaaDoor
open Go.RowKit

theorem SrcL.vals {w : World} {sa : Option Addr} {n : Nat} {L : List (List Int)} (h : SrcL w sa n L) : ∃ vs : List Value, vs.length = n ∧ (∀ b, sa = some b → ∀ j u, vs[j]? = some u → w.cell? (b.add j) = some u) ∧ (∀ u ∈ vs, u.oneCell' = true) ∧
    ∀ i, i < n → ∃ si ci, vs[i]? = some (.slice si (L.getD i []).length ci) ∧ (L.getD i []).length ≤ ci ∧ Src w si (L.getD i []).length (L.getD i []) := by
  cases sa with
  | none =>
    have h0 : n = 0 := by
      rcases Nat.eq_zero_or_pos n with h0 | h0
      · exact h0
      · obtain ⟨_, _, _, he, _⟩ := h.cell 0 h0
        cases he
    subst h0
    refine ⟨[], rfl, ?_, ?_, ?_⟩
    · intro b hb; cases hb
    · intro u hu; cases hu
    · intro i hi; exact absurd hi (Nat.not_lt_zero _)
  | some b =>
    have hx : ∀ i, i < n → ∃ si ci, w.cell? (b.add i) = some (.slice si (L.getD i []).length ci) ∧ (L.getD i []).length ≤ ci ∧ Src w si (L.getD i []).length (L.getD i []) := by
      intro i hi
      obtain ⟨a, si, ci, e, h1, h2, h3⟩ := h.cell i hi
      cases e
      exact ⟨si, ci, h1, h2, h3⟩
    refine ⟨(List.range n).map fun i => (w.cell? (b.add i)).getD undef, by simp, ?_, ?_, ?_⟩
    · rintro b' hb' j u hj
      cases hb'
      rw [List.getElem?_map, Option.map_eq_some_iff] at hj
      obtain ⟨k, hk, rfl⟩ := hj
      obtain ⟨hk1, hk2⟩ := List.getElem?_eq_some_iff.1 hk
      rw [List.length_range] at hk1
      rw [List.getElem_range] at hk2
      subst hk2
      obtain ⟨si, ci, h1, _⟩ := hx j hk1
      rw [h1]; rfl
    · intro u hu
      obtain ⟨i, hi, rfl⟩ := List.mem_map.1 hu
      obtain ⟨si, ci, h1, _⟩ := hx i (List.mem_range.1 hi)
      rw [h1]; rfl
    · intro i hi
      obtain ⟨si, ci, h1, h2, h3⟩ := hx i hi
      exact ⟨si, ci, by rw [List.getElem?_map, List.getElem?_range hi]; simp [h1], h2, h3⟩
theorem SrcL.of_vals {w : World} {ad : Addr} {n : Nat} {L : List (List Int)} (hl : L.length = n) (vs : List Value) (hc : ∀ j u, vs[j]? = some u → w.cell? (ad.add j) = some u)
    (hv : ∀ i, i < n → ∃ si ci, vs[i]? = some (.slice si (L.getD i []).length ci) ∧ (L.getD i []).length ≤ ci ∧ Src w si (L.getD i []).length (L.getD i [])) : SrcL w (some ad) n L :=
  ⟨hl, fun i hi => by
    obtain ⟨si, ci, h1, h2, h3⟩ := hv i hi
    exact ⟨ad, si, ci, rfl, hc i _ h1, h2, h3⟩⟩
theorem info_tB1 : (Tryd.prog.info? 33).map (fun i => (i.zero, i.size, i.bytes)) = some (some (.slice none 0 0), 1, 24) := by kernel_rfl
theorem getD_app (A B : List (List Int)) (i : Nat) : (A ++ B).getD i [] = if i < A.length then A.getD i [] else B.getD (i - A.length) [] := by
  by_cases h : i < A.length
  · rw [if_pos h]; simp [List.getD, List.getElem?_append_left h]
  · rw [if_neg h]; simp [List.getD, List.getElem?_append_right (Nat.not_lt.1 h)]

theorem wpList_appLL {w : World} {ops : Array Oper} {rest : List Oper} {o : Oper} {a : Act} {Q : Exit → Act → World → Prop} (hg : o.guard = none) (s x : Operand)
    (hop : o.op = Op.call { callee := Callee.builtin Builtin.append, args := #[s, x], argTypes := #[27, 27] }) (g oa na : Nat) (LA : List (List Int)) (sb : Option Addr) (nb cb : Nat) (LB : List (List Int))
    (hs : a.eval s = .slice (some ⟨g, oa, none⟩) na na) (hx : a.eval x = .slice sb nb cb) (hA : SrcL w (some ⟨g, oa, none⟩) na LA) (hB : SrcL w sb nb LB) (hn : na + nb ≤ 1099511627776)
    (h : ∀ ad' cap w', SrcL w' (some ad') (na + nb) (LA ++ LB) → Below w.heap.size w w' → wpList Tryd.prog ops Q rest (a.put o.dst (.slice (some ad') (na + nb) cap)) w') : wpList Tryd.prog ops Q (o :: rest) a w := by
  obtain ⟨i0, hi, hz⟩ := Option.map_eq_some_iff.1 info_tB1
  simp only [Prod.mk.injEq] at hz
  obtain ⟨z0, z1, z2⟩ := hz
  have hll : (LA ++ LB).length = na + nb := by rw [List.length_append, hA.len, hB.len]
  rcases Nat.eq_zero_or_pos nb with h0 | hpos
  · subst h0
    have hLB : LB = [] := List.eq_nil_of_length_eq_zero hB.len
    subst hLB
    have hrun : (Builtin.append_ #[27, 27] o.type #[.slice (some ⟨g, oa, none⟩) na na, .slice sb 0 cb]).run Tryd.prog w = .ok (.slice (some ⟨g, oa, none⟩) (na + 0) na) w := by
      cases sb with
      | none => simp [Builtin.append_, run_underlying Tryd.underlying27, sizeOf, typeInfo, hi, Builtin.lenOf, Builtin.firstCells, storeCells]
      | some b => exact run_append_room_cells (P := Tryd.prog) w 27 o.type 33 i0 Tryd.underlying27 hi g oa na na b 0 cb [] (by simp) (by simp) (by simp) (by simp) (by simp) (by simp)
    refine wpList_plain hg fun _ hK => ?_
    unfold Oper.wp execOp
    simp only [hop, resolve, invoke, builtin, Sem.run_bind, Sem.run_pure, Result.andThen_ok, List.map_toArray, List.map_cons, List.map_nil, hs, hx, hrun]
    exact hK _ _ (h _ _ _ (by simpa using hA) (Below.refl _ w))
  · obtain ⟨va, a1, a2, a3, a4⟩ := hA.vals
    obtain ⟨vb, b1, b2, b3, b4⟩ := hB.vals
    cases sb with
    | none =>
      obtain ⟨_, _, _, he, _⟩ := hB.cell 0 hpos
      cases he
    | some b =>
    refine wpList_append_grows w hg s x _ hop 33 i0 (.slice none 0 0) 1 24 Tryd.underlying27 hi z0 z1 z2 rfl (by decide) (some ⟨g, oa, none⟩) na na va hs (fun e => by cases e) (by simp [a1]) a2 b nb cb vb hx (by simp [b1]) (b2 b rfl) b3 (by omega) (by unfold maxLen; omega) (by omega) ?_
    intro v' w' hown hgr
    have hb : Below w.heap.size w w' := ⟨hgr.os, hgr.tape, hgr.output, hgr.size, fun k hk => hgr.block k hk (by simp)⟩
    rcases hown.2 with ⟨-, h0⟩ | ⟨g', cap, cur, rfl, -, -⟩
    · exact absurd h0 (by omega)
    · refine h _ cap w' (SrcL.of_vals hll (va ++ vb) (fun j u hj => World.ownsRow.cells hown (g := g') rfl j u hj) (fun i hi' => ?_)) hb
      rw [getD_app, hA.len]
      by_cases hlt : i < na
      · obtain ⟨si, ci, h1, h2, h3⟩ := a4 i hlt
        rw [if_pos hlt]
        exact ⟨si, ci, by rw [List.getElem?_append_left (by rw [a1]; exact hlt)]; exact h1, h2, h3.below hb⟩
      · obtain ⟨si, ci, h1, h2, h3⟩ := b4 (i - na) (by omega)
        rw [if_neg hlt]
        exact ⟨si, ci, by rw [List.getElem?_append_right (by rw [a1]; omega), a1]; exact h1, h2, h3.below hb⟩
end Go.Proofs.YtanjhngehfbpbaaDoor
namespace Go.Proofs.YtanjhngehfbpbaaDoor.Cu
open Go.RowKit Lm Fp Sc
/-- The number of bytes, the lowest first. -/
def hnum (xs : List Int) : Nat := val 256 (xs.map Int.toNat)
def n32 (a : Nat) : List Int := nar (dig 256 32 a)
def wide (xs : List Int) : Nat := hnum (Hb.hash xs) % q
def spart (seed : Nat) : Nat := clamp (hnum ((Hb.hash (n32 seed)).take 32))
def srest (seed : Nat) : List Int := (Hb.hash (n32 seed)).drop 32
def epub (seed : Nat) : Nat := ebytes (emul base (spart seed) 256)
def esignR (seed : Nat) (b : List Int) : Nat := ebytes (emul base (wide (srest seed ++ b)) 256)
def esignS (seed : Nat) (b : List Int) : Nat := (wide (srest seed ++ b) + wide (n32 (esignR seed b) ++ (n32 (epub seed) ++ b)) * spart seed % q) % q
def esign (seed : Nat) (b : List Int) : List Int := n32 (esignR seed b) ++ n32 (esignS seed b)
def everify (key R S : Nat) (b : List Int) : Bool :=
  match eread R, eread key with
  | some r, some a => decide (S < q) && (ebytes (emul base S 256) == ebytes (eadd r (emul a (wide (n32 R ++ (n32 key ++ b))) 256)))
  | _, _ => false
theorem n32_len (a : Nat) : (n32 a).length = 32 := (nar_len _).trans (dig_len _ _ _)
theorem n32_bytes (a : Nat) : bytes (n32 a) := by
  intro x hx
  obtain ⟨y, hy, rfl⟩ := List.mem_map.1 hx
  have := dig_lt 256 (by decide) 32 a y hy
  refine ⟨Int.natCast_nonneg y, ?_⟩
  show (y : Int) ≤ 255
  omega
theorem toNat_nar (ns : List Nat) : (nar ns).map Int.toNat = ns := by rw [nar, List.map_map]; exact List.map_id ns
theorem nar_toNat {xs : List Int} (h : bytes xs) : nar (xs.map Int.toNat) = xs := nar_of xs (fun x hx => (h x hx).1)
theorem toNat_lt {xs : List Int} (h : bytes xs) : ∀ x ∈ xs.map Int.toNat, x < 256 := by
  intro x hx
  obtain ⟨y, hy, rfl⟩ := List.mem_map.1 hx
  have := h y hy
  omega
theorem dig_hnum {xs : List Int} (h : bytes xs) : nar (dig 256 xs.length (hnum xs)) = xs := by
  have h1 := dig_val 256 (by decide) (xs.map Int.toNat) (toNat_lt h)
  rw [List.length_map] at h1
  rw [hnum, h1, nar_toNat h]
theorem hnum_lt {xs : List Int} (h : bytes xs) : hnum xs < 256 ^ xs.length := by
  have := val_lt 256 (xs.map Int.toNat) (toNat_lt h)
  rwa [List.length_map] at this
theorem hnum_n32 {a : Nat} (h : a < 256 ^ 32) : hnum (n32 a) = a := by rw [hnum, n32, toNat_nar, val_dig, Nat.mod_eq_of_lt h]
theorem n32_hnum {xs : List Int} (h : bytes xs) (hl : xs.length = 32) : n32 (hnum xs) = xs := by rw [n32, ← hl]; exact dig_hnum h
theorem hash_bytes' (m : List Int) : bytes (Hb.hash m) := by
  intro x hx
  simp only [Hb.hash, Hb.digest, List.mem_map, List.mem_range] at hx
  obtain ⟨i, _, rfl⟩ := hx
  omega
theorem bytes_take {xs : List Int} (h : bytes xs) (n : Nat) : bytes (xs.take n) := fun x hx => h x (List.mem_of_mem_take hx)
theorem bytes_drop {xs : List Int} (h : bytes xs) (n : Nat) : bytes (xs.drop n) := fun x hx => h x (List.mem_of_mem_drop hx)
theorem bytes_app {xs ys : List Int} (h : bytes xs) (k : bytes ys) : bytes (xs ++ ys) := fun x hx => (List.mem_append.1 hx).elim (h x) (k x)
theorem wide_lt (xs : List Int) : wide xs < 256 ^ 32 := Nat.lt_trans (Nat.mod_lt _ q_pos) q_lt32
theorem srest_len (seed : Nat) : (srest seed).length = 32 := by rw [srest, List.length_drop, Hb.hash_len]
theorem srest_bytes (seed : Nat) : bytes (srest seed) := bytes_drop (hash_bytes' _) _
theorem alive13 : (let p := epub 0; let g := (esignR 0 [120], esignS 0 [120]); everify p g.1 g.2 [120] && !everify p 0 0 [121] && (eread p).isSome) = true := by decide +kernel
end Go.Proofs.YtanjhngehfbpbaaDoor.Cu
