/- FlashClears: the walk. Condition: the lists lie there. -/
import Derived.Test.YtcecgbjpmegljaaClA
import Derived.Test.YtcecgbjpmegljaaOpenL
import Derived.Test.YtcecgbjpmegljaaApl
import Derived.Test.YtcecgbjpmegljaaLst
import Derived.Test.YtcecgbjpmegljaaLig
import Derived.Deep.RegionHeld3
namespace Go.Proofs.Ytcecgbjpmegljaa
open Go.RowKit
set_option linter.unusedSimpArgs false
set_option linter.unusedVariables false

set_option maxRecDepth 100000 in
set_option maxHeartbeats 800000 in
theorem clears_early (a : Option Addr) (n c : Nat) (o : Int) (w : World) (h : 20 < n ∨ (n ≤ 20 ∧ o < 0) ∨ (n ≤ 20 ∧ 0 ≤ o ∧ (n : Int) < o)) :
    Calls Try.prog 3 #[.slice a n c, .int .i64 o] w fun e w' => e = .returned (.bool true) ∧ Below w.heap.size w w' := by
  rcases h with h1 | ⟨h1, h2⟩ | ⟨h1, h2, h3⟩
  all_goals
    go_enter Try.func3, Try.ntmps3
    go_wp2_with (go_at_call 5; refine (alive19_any w).mono ?_; rintro e w' ⟨rfl, hb⟩)
    go_ret
    exact ⟨rfl, hb⟩

/-- append onto slices of the call's own, whatever the source. -/
theorem run_appV {w : World} {B : Nat} {v : Value} {vs us : List Value} {sa : Option Addr} {m c : Nat} {ty : TypeId} (hown : w.ownsRow B 26 1 v vs.length vs) (hl : us.length = m)
    (hc : ∀ b, sa = some b → ∀ j u, us[j]? = some u → w.cell? (b.add j) = some u) (h0 : sa = none → m = 0) (h1 : ∀ u ∈ us, u.oneCell' = true) (hlen : vs.length + m ≤ 1099511627776) (hbase : B ≤ w.heap.size) :
    ∃ v' w', (Builtin.append_ #[22, 22] ty #[v, .slice sa m c]).run Try.prog w = .ok v' w' ∧ w'.ownsRow B 26 1 v' (vs ++ us).length (vs ++ us) ∧ w.grownBy w' v.ownBlock := by
  obtain ⟨i0, hi, hz0, hz1, hz2⟩ := info_parts info_tB
  cases sa with
  | none =>
    have hm := h0 rfl
    subst hm
    have hu : us = [] := List.eq_nil_of_length_eq_zero hl
    subst hu
    refine ⟨v, w, ?_, by rw [List.append_nil]; exact hown, ⟨rfl, rfl, rfl, Nat.le_refl _, fun _ _ _ => rfl⟩⟩
    rcases hown.2 with ⟨rfl, h0⟩ | ⟨g, cap, cur, rfl, _, _, hnc, _⟩
    · simp [Builtin.append_, run_underlying Try.underlying22, sizeOf, typeInfo, hi, Builtin.lenOf, Builtin.firstCells]
    · simp [Builtin.append_, run_underlying Try.underlying22, sizeOf, typeInfo, hi, Builtin.lenOf, Builtin.firstCells, hnc, storeCells]
  | some b =>
    obtain ⟨v', w', e1, e2, e3, e4, e5⟩ := run_append_own_at (P := Try.prog) w B 22 ty 26 i0 (.slice none 0 0) 1 24 Try.underlying22 hi hz0 hz1 hz2 rfl (by decide) v vs.length vs hown b m c us
      (by rw [hl, Nat.mul_one]) (hc b rfl) h1 (by unfold maxLen; omega) (by omega) hbase
    exact ⟨v', w', e1, by rw [List.length_append, hl]; exact e2, e3⟩
theorem step_appV {w : World} {ops : Array Oper} {o : Oper} {a : Act} {K : Act → World → Prop} {Q : Exit → Act → World → Prop} {E : Prop} (hgd : o.guard = none) (s x : Operand)
    (ho : o.op = .call { callee := .builtin .append, args := #[s, x], argTypes := #[22, 22] })
    (B : Nat) (v : Value) (vs us : List Value) (hs : a.eval s = v) (hown : w.ownsRow B 26 1 v vs.length vs) (sa : Option Addr) (m c : Nat) (hx : a.eval x = .slice sa m c) (hl : us.length = m)
    (hc : ∀ b, sa = some b → ∀ j u, us[j]? = some u → w.cell? (b.add j) = some u) (h0 : sa = none → m = 0) (h1 : ∀ u ∈ us, u.oneCell' = true) (hlen : vs.length + m ≤ 1099511627776) (hbase : B ≤ w.heap.size)
    (h : ∀ v' w', w'.ownsRow B 26 1 v' (vs ++ us).length (vs ++ us) → w.grownBy w' v.ownBlock → K (a.put o.dst v') w') :
    if Region.wanted o (yielded ops a.tmps) = true then Oper.wp Try.prog o a w K Q else E := by
  have hw : Region.wanted o (yielded ops a.tmps) = true := by simp [Region.wanted, hgd]
  rw [if_pos hw]
  obtain ⟨v', w', hr, h2, h3⟩ := run_appV (ty := o.type) (c := c) hown hl hc h0 h1 hlen hbase
  unfold Oper.wp execOp
  simp only [ho, resolve, invoke, builtin, Sem.run_bind, Sem.run_pure, Result.andThen_ok, List.map_toArray, List.map_cons, List.map_nil, hs, hx, hr]
  exact h v' w' h2 h3

/-- The lists that came in, as values and as bytes. -/
structure Lists (w : World) (a : Option Addr) (n c : Nat) (L : List (List Int)) (vs : List Value) : Prop where
  ll : L.length = n
  vl : vs.length = n
  nc : n ≤ c
  nil : a = none → n = 0 ∧ c = 0
  cell : ∀ b, a = some b → ∀ j u, vs[j]? = some u → w.cell? (b.add j) = some u
  at' : ∀ i, i < n → ∃ si ci, vs[i]? = some (.slice si (L.getD i []).length ci) ∧ (L.getD i []).length ≤ ci ∧ (si = none → ci = 0) ∧ Src w si (L.getD i []).length (L.getD i [])
theorem Lists.one {w : World} {a : Option Addr} {n c : Nat} {L : List (List Int)} {vs : List Value} (h : Lists w a n c L vs) : ∀ u ∈ vs, u.oneCell' = true := by
  intro u hu
  obtain ⟨i, hi, rfl⟩ := List.getElem_of_mem hu
  obtain ⟨si, ci, h1, _⟩ := h.at' i (by rw [← h.vl]; exact hi)
  rw [List.getElem?_eq_getElem hi] at h1
  rw [Option.some.inj h1]
  rfl
theorem add_add (b : Addr) (i j : Nat) : (b.add i).add j = b.add (i + j) := by
  obtain ⟨k, off, s⟩ := b
  unfold Addr.add
  by_cases ho : i = 0
  · subst ho; simp
  · by_cases hj : j = 0
    · subst hj; simp
    · simp [ho, hj, Nat.add_assoc]
/-- What 'l[order:]' and 'l[:order]' are. -/
theorem Lists.cut {w : World} {a : Option Addr} {n c : Nat} {L : List (List Int)} {vs : List Value} (h : Lists w a n c L vs) (O : Nat) (hO : O ≤ n) :
    ∃ a1 c1 a2 c2, (∀ u, (Instr.sliceAt 22 (.slice a n c) (some (.int .i64 (O : Int))) none none).run Try.prog u = .ok (.slice a1 (n - O) c1) u) ∧ (∀ u, (Instr.sliceAt 22 (.slice a n c) none (some (.int .i64 (O : Int))) none).run Try.prog u = .ok (.slice a2 O c2) u) ∧
      (∀ b, a1 = some b → ∀ j u, (vs.drop O)[j]? = some u → w.cell? (b.add j) = some u) ∧ (a1 = none → n - O = 0) ∧ (∀ b, a2 = some b → ∀ j u, (vs.take O)[j]? = some u → w.cell? (b.add j) = some u) ∧ (a2 = none → O = 0) := by
  have hnc := h.nc
  cases a with
  | none =>
    obtain ⟨rfl, rfl⟩ := h.nil rfl
    obtain rfl : O = 0 := by omega
    refine ⟨none, 0, none, 0, fun u => ?_, fun u => ?_, fun b e => (by cases e), fun _ => rfl, fun b e => (by cases e), fun _ => rfl⟩ <;> go_simp
  | some b =>
    refine ⟨if c = O then some b else some (b.add O), c - O, some b, c, fun u => ?_, fun u => ?_, ?_, fun e => ?_, ?_, fun e => (by cases e)⟩
    · have h1 : ¬ (n : Int) < (O : Int) := by omega
      have h2 : ¬ (O : Int) < 0 := by omega
      have h3 : ¬ (c : Int) < (n : Int) := by omega
      have e1 : ((n : Int) - (O : Int)).toNat = n - O := by omega
      have e2 : ((c : Int) - (O : Int)).toNat = c - O := by omega
      have e3 : ((c : Int) = (O : Int)) = (c = O) := propext (by omega)
      go_simp
      try simp [Int.ofNat_inj]
      try omega
    · have h1 : ¬ (c : Int) < (O : Int) := by omega
      have h2 : ¬ (O : Int) < 0 := by omega
      go_simp
      intro h3
      omega
    · intro b' e j u hj
      rw [List.getElem?_drop] at hj
      have hlt : O + j < n := by rw [← h.vl]; exact (List.getElem?_eq_some_iff.1 hj).1
      rw [if_neg (by omega)] at e
      cases e
      rw [add_add]
      exact h.cell b rfl _ u hj
    · split at e <;> cases e
    · intro b' e j u hj
      cases e
      rw [List.getElem?_take] at hj
      split at hj
      · exact h.cell b rfl _ u hj
      · cases hj
theorem getD_turn {α : Type} (L : List α) (O : Nat) (d : α) (hO : O ≤ L.length) (i : Nat) : (L.drop O ++ L.take O).getD i d = if i < L.length - O then L.getD (O + i) d else if i < L.length then L.getD (i - (L.length - O)) d else d := by
  simp only [List.getD]
  by_cases h : i < L.length - O
  · rw [List.getElem?_append_left (by simpa using h), if_pos h, List.getElem?_drop]
  · rw [List.getElem?_append_right (by simp; omega), if_neg h, List.length_drop, List.getElem?_take]
    by_cases h2 : i < L.length
    · rw [if_pos h2, if_pos (by omega)]
    · rw [if_neg h2, if_neg (by omega)]
      rfl
/-- The lists in the other order, out of the own memory that holds them. -/
theorem Lists.turn {w : World} {a : Option Addr} {n c : Nat} {L : List (List Int)} {vs : List Value} (h : Lists w a n c L vs) (O : Nat) (hO : O ≤ n) (i : Nat) (hi : i < n) :
    ∃ si ci, (vs.drop O ++ vs.take O)[i]? = some (.slice si ((L.drop O ++ L.take O).getD i []).length ci) ∧ ((L.drop O ++ L.take O).getD i []).length ≤ ci ∧ (si = none → ci = 0) ∧ Src w si ((L.drop O ++ L.take O).getD i []).length ((L.drop O ++ L.take O).getD i []) := by
  have e1 := getD_turn L O [] (by rw [h.ll]; exact hO) i
  rw [h.ll] at e1
  have e2 : ∀ j, j < n → (vs.drop O ++ vs.take O)[i]? = vs[if i < n - O then O + i else i - (n - O)]? := by
    intro j hj
    by_cases h1 : i < n - O
    · rw [List.getElem?_append_left (by rw [List.length_drop, h.vl]; exact h1), if_pos h1, List.getElem?_drop]
    · rw [List.getElem?_append_right (by rw [List.length_drop, h.vl]; omega), if_neg h1, List.length_drop, h.vl, List.getElem?_take, if_pos (by omega)]
  rw [e1, e2 i hi]
  by_cases h1 : i < n - O
  · rw [if_pos h1, if_pos h1]
    exact h.at' _ (by omega)
  · rw [if_neg h1, if_neg h1, if_pos hi]
    exact h.at' _ (by omega)

/-- Both flashes and the bytes that are wanted. -/
structure ClR (w wr : World) (p g p2 g2 q : Nat) (s t : Fl) (W : List Int) : Prop where
  f : IsFl wr p g s
  f2 : IsFl wr p2 g2 t
  q : wr.heap[q]? = some (.cells (row8 W []) 5 (0, 0))
  below : Below w.heap.size w wr
structure ClB (B p g p2 g2 q : Nat) : Prop where
  low : B ≤ p ∧ B ≤ g ∧ B ≤ p2 ∧ B ≤ g2 ∧ B ≤ q
  ne : p ≠ g ∧ p ≠ p2 ∧ p ≠ g2 ∧ p ≠ q ∧ g ≠ p2 ∧ g ≠ g2 ∧ g ≠ q ∧ p2 ≠ g2 ∧ p2 ≠ q ∧ g2 ≠ q
theorem ClR.fresh {w wr w' : World} {p g p2 g2 q : Nat} {s t : Fl} {W : List Int} (h : ClR w wr p g p2 g2 q s t W) (k : Below wr.heap.size wr w') : ClR w w' p g p2 g2 q s t W :=
  ⟨h.f.below k, h.f2.below k, Below.blk k h.q (blk_lt h.q), h.below.trans (k.mono h.below.size)⟩
theorem ClR.drewN {w wr : World} {p g p2 g2 q : Nat} {s t : Fl} {W : List Int} (h : ClR w wr p g p2 g2 q s t W) (k : Nat) : ClR w (wr.drewN k) p g p2 g2 q s t W := ⟨h.f.drewN k, h.f2.drewN k, h.q, Go.Proofs.Ytcecgbjpmegljaa.Below.drewN h.below k⟩
theorem ClR.one {w wr w' : World} {p g p2 g2 q : Nat} {s s' t : Fl} {W : List Int} (h : ClR w wr p g p2 g2 q s t W) (b : ClB w.heap.size p g p2 g2 q) (k : Kept (fun x => x = p ∨ x = g) wr w') (hf : IsFl w' p g s') : ClR w w' p g p2 g2 q s' t W := by
  obtain ⟨l, m⟩ := b
  exact ⟨hf, h.f2.kept k (by omega) (by omega), k.blk h.q (by omega), h.below.trans (k.toBelow h.below.size (by rintro i (rfl | rfl) <;> omega))⟩
theorem ClR.two {w wr w' : World} {p g p2 g2 q : Nat} {s t t' : Fl} {W : List Int} (h : ClR w wr p g p2 g2 q s t W) (b : ClB w.heap.size p g p2 g2 q) (k : Kept (fun x => x = p2 ∨ x = g2) wr w') (hf : IsFl w' p2 g2 t') : ClR w w' p g p2 g2 q s t' W := by
  obtain ⟨l, m⟩ := b
  exact ⟨h.f.kept k (by omega) (by omega), hf, k.blk h.q (by omega), h.below.trans (k.toBelow h.below.size (by rintro i (rfl | rfl) <;> omega))⟩
theorem ClR.set {w wr : World} {p g p2 g2 q : Nat} {s t : Fl} {W : List Int} (h : ClR w wr p g p2 g2 q s t W) (b : ClB w.heap.size p g p2 g2 q) (k : Nat) (hk : k < W.length) (x : Int) : ClR w (wr.setCell ⟨q, k, none⟩ (.int .u8 x)) p g p2 g2 q s t (W.set k x) := by
  obtain ⟨l, m⟩ := b
  have hk' : Kept (fun x => x = q) wr (wr.setCell ⟨q, k, none⟩ (.int .u8 x)) := (Kept.refl _ _).at _ _
  refine ⟨h.f.kept hk' (by omega) (by omega), h.f2.kept hk' (by omega) (by omega), ?_, h.below.trans (hk'.toBelow h.below.size (by rintro i rfl; omega))⟩
  rw [blk_setCell h.q, row8_set _ _ _ hk]
theorem else_old {w : World} {sa : Option Addr} {n : Nat} {xs : List Int} (h : Src w sa n xs) {p g : Nat} (hp : w.heap.size ≤ p) (hg : w.heap.size ≤ g) : elseW sa n p g := by
  intro b e
  rcases Nat.eq_zero_or_pos n with h0 | h0
  · exact .inl h0
  · right
    obtain ⟨b', e', hc⟩ := h.cell 0 h0
    rw [e] at e'
    cases e'
    have := World.block_lt_of_cell? w _ hc
    rw [block_add] at this
    omega
theorem init_set (j : Nat) (hj : j < 256) : (List.replicate j (255 : Int) ++ List.replicate (256 - j) 0).set j 255 = List.replicate (j + 1) 255 ++ List.replicate (256 - (j + 1)) 0 := by
  rw [List.set_append_right _ _ (by simp), List.length_replicate, Nat.sub_self, show 256 - j = (256 - (j + 1)) + 1 by omega, List.replicate_succ, List.set_cons_zero, List.replicate_succ' (n := j), List.append_assoc]
  rfl
theorem init_len (j : Nat) (hj : j ≤ 256) : (List.replicate j (255 : Int) ++ List.replicate (256 - j) 0).length = 256 := by rw [List.length_append, List.length_replicate, List.length_replicate]; omega
theorem flt_eq : ∀ n : Nat, n < 21 → ((FloatKind.f64.format.order (flt n) (flt n) == some .eq) = true) := by decide +kernel
theorem flt_one : flt 1 = 4607182418800017408 ∧ (FloatKind.f64.format.order 4607182418800017408 4607182418800017408 == some .eq) = true := by decide +kernel

theorem own_far {w w' : World} {T : Nat → Prop} {B n : Nat} {v : Value} {us : List Value} (h : w.ownsRow B 26 1 v n us) (k : Kept T w w') (hT : ∀ g, T g → g < B) : w'.ownsRow B 26 1 v n us := ownsRow_kept h k (fun g e t => absurd (hT g t) (Nat.not_lt.2 (World.ownsRow.lt h g e).1))
theorem own_form {w : World} {B n : Nat} {v : Value} {us : List Value} (h : w.ownsRow B 26 1 v n us) : ∃ sm cm, v = .slice sm n cm ∧ n ≤ cm ∧ (∀ b, sm = some b → ∃ g, b = ⟨g, 0, none⟩ ∧ v.ownBlock = some g ∧ B ≤ g) ∧ (sm = none → n = 0) := by
  rcases h.2 with ⟨rfl, rfl⟩ | ⟨g, cap, cur, rfl, hB, hg, hn, hm, hs, ht⟩
  · exact ⟨none, 0, rfl, Nat.le_refl _, fun b e => (by cases e), fun _ => rfl⟩
  · exact ⟨_, cap, rfl, hn, fun b e => (by cases e; exact ⟨g, rfl, rfl, hB⟩), fun e => (by cases e)⟩

set_option maxRecDepth 100000 in
set_option maxHeartbeats 4000000 in
theorem clears_some (n c O : Nat) (L : List (List Int)) (vs : List Value) (w : World) (hn : n ≤ 20) (hO : O ≤ n) (hpos : 0 < n) (ad : Addr) (hL : Lists w (some ad) n c L vs) (hb : ∀ l ∈ L, bytes l) :
    Calls Try.prog 3 #[.slice (some ad) n c, .int .i64 O] w fun e w' => e = .returned (.bool true) ∧ Below w.heap.size w w' := by
  have hnew := fun w => new_any 2 w
  have hmk := fun w => mk8 256 (by omega) w
  obtain ⟨z, hz⟩ : ∃ z, z = zeros 256 := ⟨_, rfl⟩
  rw [← hz] at hmk
  obtain ⟨s0, hs0⟩ : ∃ s, s = Fl.new 2 := ⟨_, rfl⟩
  rw [← hs0] at hnew
  have HNEW := Lib.hid hnew
  have hmk2 : ∀ w : World, (Instr.makeSlice 26 (.int .i64 256) (.int .i64 256)).run Try.prog w = .ok (.slice (some ⟨w.heap.size, 0, none⟩) 256 256) (w.alloc (.cells (row8 z []) 5)) := hmk
  have HZ : Hid (z = List.replicate 0 255 ++ List.replicate (256 - 0) 0) := Lib.hid hz
  have HS0 : Hid (s0 = clS []) := Lib.hid hs0
  have HL := Lib.hid hL
  have HB := Lib.hid hb
  clear hnew hmk hz hs0 hL hb
  go_enter Try.func3, Try.ntmps3
  go_upto_region 4 with (first | (go_at_call 5; refine (alive19_any w).mono ?_; rintro e w1 ⟨rfl, hb1⟩; have HB1 := Lib.hid hb1; clear hb1))
  go_upto_region 5 with (first | (go_at_call 6; refine (HNEW.out _).mono ?_; rintro e w2 ⟨p, g, rfl, hf2, hp, hg, hb2⟩; have HF2 := Lib.hid hf2; have HPG := Lib.hid (And.intro hp hg); have HB2 := Lib.hid hb2; clear hf2 hp hg hb2))
  go_upto_region 6 with (first | (go_at_call 6; refine (HNEW.out _).mono ?_; rintro e w3 ⟨p2, g2, rfl, hf3, hp, hg, hb3⟩; have HF3 := Lib.hid hf3; have HPG2 := Lib.hid (And.intro hp hg); have HB3 := Lib.hid hb3; clear hf3 hp hg hb3))
  go_upto_region 7 with fail
  clear hmk2
  have HR : Hid (ClR w (w3.alloc (.cells (row8 z []) 5)) p g p2 g2 w3.heap.size s0 s0 z) := Lib.hid (by
    have h1 : Below w.heap.size w w3 := HB1.out.trans ((HB2.out.trans (HB3.out.mono HB2.out.size)).mono HB1.out.size)
    have k := (Below.refl w3.heap.size w3).alloc (Nat.le_refl _) (.cells (row8 z []) 5)
    exact ⟨(HF2.out.below HB3.out).below k, HF3.out.below k, blk_new _ _, h1.trans (k.mono h1.size)⟩)
  have HQ : Hid (ClB w.heap.size p g p2 g2 w3.heap.size) := Lib.hid (by
    have a1 := HB1.out.size
    have a2 := HB2.out.size
    have a3 := HB3.out.size
    have l1 := HF2.out.lt
    have l2 := HF3.out.lt
    have m1 := HF2.out.ne
    have m2 := HF3.out.ne
    obtain ⟨q1, q2⟩ := HPG.out
    obtain ⟨q3, q4⟩ := HPG2.out
    exact ⟨by omega, by omega⟩)
  have HW4 : Hid (p < w3.heap.size + 1 ∧ g < w3.heap.size + 1 ∧ p2 < w3.heap.size + 1 ∧ g2 < w3.heap.size + 1) := Lib.hid (by
    have a3 := HB3.out.size
    have l1 := HF2.out.lt
    have l2 := HF3.out.lt
    omega)
  have HSZ : Hid ((w3.alloc (.cells (row8 z []) 5)).heap.size = w3.heap.size + 1) := Lib.hid (by simp)
  clear HF2 HF3 HPG HPG2 HB1 HB2 HB3 HNEW
  generalize w3.heap.size = q at HR HQ HW4 HSZ ⊢
  generalize w3.alloc (.cells (row8 z []) 5) = w4 at HR HSZ ⊢
  rw [HZ.out] at HR
  clear HZ
  go_wp2_with fail
  go_loopw [9] (fun i wr => ∃ j : Nat, j ≤ 256 ∧ i = .int .i64 j ∧ ClR w wr p g p2 g2 q s0 s0 (List.replicate j 255 ++ List.replicate (256 - j) 0) ∧ wr.heap.size = q + 1) (fun i _ => 256 - (intOf i).toNat)
  case atStart => exact ⟨0, Nat.zero_le _, rfl, HR.out, HSZ.out⟩
  case round =>
    obtain ⟨j, hj, rfl, hR, hz⟩ := hrel
    by_cases hlt : j < 256
    · have x0 := cell_blk hR.q j
      rw [row8_get _ _ _ (by rw [init_len j hj]; exact hlt)] at x0
      have x1 := free_blk hR.q j
      have HR2 := Lib.hid (hR.set HQ.out j (by rw [init_len j hj]; exact hlt) 255)
      rw [init_set j hlt] at HR2
      have HZ2 := Lib.hid hz
      clear hR hz
      go_wp2_with fail
      go_roundw
      case rel => exact ⟨j + 1, by omega, by go_num, HR2.out, by rw [size_setCell]; exact HZ2.out⟩
      case measure => simp [intOf]; omega
    · obtain rfl : j = 256 := by omega
      rw [show ((256 : Nat) : Int) = 256 from rfl]
      have HR2 := Lib.hid hR
      have HZ2 := Lib.hid hz
      clear hR hz HR HSZ
      go_upto_region 11 with fail
      obtain ⟨a1, c1, a2, c2, hs1, hs2, hv1, hn1, hv2, hn2⟩ := HL.out.cut O hO
      have HS1 := Lib.hid hs1
      have HS2 := Lib.hid hs2
      have HV1 := Lib.hid hv1
      have HV2 := Lib.hid hv2
      have HN1 := Lib.hid hn1
      have HN2 := Lib.hid hn2
      clear hs1 hs2 hv1 hn1 hv2 hn2
      refine wp_region_held_drew (S := (fun _ => True)) (by kernel_rfl) trivial (fun _ => ?_)
      have HR3 := Lib.hid (HR2.out.drewN 1)
      have HZ3 : Hid ((wr.drewN 1).heap.size = q + 1) := Lib.hid HZ2.out
      rw [show wr.drew = wr.drewN 1 from rfl]
      generalize wr.drewN 1 = w5 at HR3 HZ3 ⊢
      clear HR2 HZ2
      refine wpAnyH_take (i := 0) (oi := (⟨some 51, _, _, _, _, none⟩ : Oper)) (v := .slice (some ad) n c) rfl (by kernel_rfl) (by kernel_rfl) (by kernel_rfl) (fun _ _ _ h => h) (Or.inl ⟨by rfl, ?hy0⟩) trivial ?rest0
      case hy0 => (intro u _; first | rfl | kernel_rfl)
      (try simp only [Act.put, List.setIfInBounds_toArray, List.set_cons_zero, List.set_cons_succ])
      refine wpAnyH_take (i := 1) (oi := (⟨some 52, _, _, _, _, none⟩ : Oper)) (v := .int .i64 O) rfl (by kernel_rfl) (by kernel_rfl) (by kernel_rfl) (fun _ _ _ h => h) (Or.inl ⟨by rfl, ?hy1⟩) trivial ?rest1
      case hy1 => (intro u _; first | rfl | kernel_rfl)
      (try simp only [Act.put, List.setIfInBounds_toArray, List.set_cons_zero, List.set_cons_succ])
      refine wpAnyH_take (i := 2) (oi := (⟨some 53, _, _, _, _, none⟩ : Oper)) (v := .slice a1 (n - O) c1) rfl (by kernel_rfl) (by kernel_rfl) (by kernel_rfl) (fun _ _ _ h => h) (Or.inl ⟨by rfl, ?hy2⟩) trivial ?rest2
      case hy2 => (intro u _; exact exec_slice 22 _ _ none rfl (.slice (some ad) n c) (some (.int .i64 O)) none rfl rfl rfl _ (HS1.out u))
      (try simp only [Act.put, List.setIfInBounds_toArray, List.set_cons_zero, List.set_cons_succ])
      refine wpAnyH_take (i := 4) (oi := (⟨some 55, _, _, _, _, none⟩ : Oper)) (v := .slice (some ad) n c) rfl (by kernel_rfl) (by kernel_rfl) (by kernel_rfl) (fun _ _ _ h => h) (Or.inl ⟨by rfl, ?hy4⟩) trivial ?rest4
      case hy4 => (intro u _; first | rfl | kernel_rfl)
      (try simp only [Act.put, List.setIfInBounds_toArray, List.set_cons_zero, List.set_cons_succ])
      refine wpAnyH_take (i := 5) (oi := (⟨some 56, _, _, _, _, none⟩ : Oper)) (v := .int .i64 O) rfl (by kernel_rfl) (by kernel_rfl) (by kernel_rfl) (fun _ _ _ h => h) (Or.inl ⟨by rfl, ?hy5⟩) trivial ?rest5
      case hy5 => (intro u _; first | rfl | kernel_rfl)
      (try simp only [Act.put, List.setIfInBounds_toArray, List.set_cons_zero, List.set_cons_succ])
      refine wpAnyH_take (i := 6) (oi := (⟨some 57, _, _, _, _, none⟩ : Oper)) (v := .slice a2 O c2) rfl (by kernel_rfl) (by kernel_rfl) (by kernel_rfl) (fun _ _ _ h => h) (Or.inl ⟨by rfl, ?hy6⟩) trivial ?rest6
      case hy6 => (intro u _; exact exec_slice 22 _ none _ rfl (.slice (some ad) n c) none (some (.int .i64 O)) rfl rfl rfl _ (HS2.out u))
      (try simp only [Act.put, List.setIfInBounds_toArray, List.set_cons_zero, List.set_cons_succ])
      refine wpAnyH_ready (rs := [3]) (by kernel_rfl) (by simp) ?_
      refine AllReadyH.cons (o := (⟨some 54, _, _, _, _, none⟩ : Oper)) rfl (fun K hK => ?_) AllReadyH.nil
      refine step_appV rfl (.const (.slice none 0 0)) (.tmp 53) rfl (q + 1) (.slice none 0 0) [] (vs.drop O) rfl ⟨by simp, .inl ⟨rfl, rfl⟩⟩ a1 (n - O) c1 rfl (by rw [List.length_drop, HL.out.vl]) (fun b e j u hj => below_cell HR3.out.below (HV1.out b e j u hj)) HN1.out (fun u hu => HL.out.one u (List.mem_of_mem_drop hu)) (by simp; omega) (Nat.le_of_eq HZ3.out.symm) ?_
      intro v6 w6 ho6 hg6
      rw [List.nil_append] at ho6
      have hb6 : Below w5.heap.size w5 w6 := ⟨hg6.os, hg6.tape, hg6.output, hg6.size, fun k hk => hg6.block k hk (by simp [Value.ownBlock])⟩
      have HR6 := Lib.hid (HR3.out.fresh hb6)
      have HZ6 : Hid (q + 1 ≤ w6.heap.size) := Lib.hid (by rw [← HZ3.out]; exact hb6.size)
      have HO6 := Lib.hid ho6
      clear ho6 hg6 hb6
      refine hK.out _ _ trivial (fun _ => ?_)
      clear hK K
      (try simp only [Act.put, List.setIfInBounds_toArray, List.set_cons_zero, List.set_cons_succ])
      refine wpAnyH_ready (rs := [7]) (by kernel_rfl) (by simp) ?_
      refine AllReadyH.cons (o := (⟨some 58, _, _, _, _, none⟩ : Oper)) rfl (fun K hK => ?_) AllReadyH.nil
      refine step_appV rfl (.tmp 54) (.tmp 57) rfl (q + 1) v6 (vs.drop O) (vs.take O) rfl HO6.out a2 O c2 rfl (by rw [List.length_take, HL.out.vl]; omega) (fun b e j u hj => below_cell HR6.out.below (HV2.out b e j u hj)) HN2.out (fun u hu => HL.out.one u (List.mem_of_mem_take hu)) (by rw [List.length_drop, HL.out.vl]; omega) HZ6.out ?_
      intro v7 w7 ho7 hg7
      have hk7 : Kept (fun g => v6.ownBlock = some g) w6 w7 := kept_grown hg7
      have HR7 : Hid (ClR w w7 p g p2 g2 q s0 s0 (List.replicate 256 255 ++ List.replicate (256 - 256) 0)) := Lib.hid (by
        have h4 := HW4.out
        have h5 := fun k h => (World.ownsRow.lt HO6.out k h).1
        have h6 := HR6.out
        have h7 := HQ.out.low
        have h8 := h6.below.size
        refine ⟨h6.f.kept hk7 (fun e => by have := h5 _ e; omega) (fun e => by have := h5 _ e; omega), h6.f2.kept hk7 (fun e => by have := h5 _ e; omega) (fun e => by have := h5 _ e; omega), hk7.blk h6.q (fun e => by have := h5 _ e; omega), h6.below.trans (hk7.toBelow h8 (fun i e => by have := h5 _ e; omega))⟩)
      have HO7 := Lib.hid ho7
      clear ho7 hg7 hk7
      refine hK.out _ _ trivial (fun _ => ?_)
      clear hK K HR6 HZ6 HO6 HR3 HZ3
      (try simp only [Act.put, List.setIfInBounds_toArray, List.set_cons_zero, List.set_cons_succ])
      refine wpAnyH_take (i := 8) (oi := (⟨some 10, _, _, _, _, none⟩ : Oper)) (v := v7) rfl (by kernel_rfl) (by kernel_rfl) (by kernel_rfl) (fun _ _ _ h => h) (Or.inl ⟨by rfl, ?hy8⟩) trivial ?rest8
      case hy8 => (intro u _; first | rfl | kernel_rfl)
      (try simp only [Act.put, List.setIfInBounds_toArray, List.set_cons_zero, List.set_cons_succ])
      refine wpAnyH_done (by kernel_rfl) ?_ _
      (try simp only [Exit.then])
      clear HS1 HS2 HV1 HV2 HN1 HN2
      have HM : Hid (∀ i, i < n → ∃ si ci, (vs.drop O ++ vs.take O)[i]? = some (.slice si ((L.drop O ++ L.take O).getD i []).length ci) ∧ ((L.drop O ++ L.take O).getD i []).length ≤ ci ∧ (si = none → ci = 0) ∧ Src w si ((L.drop O ++ L.take O).getD i []).length ((L.drop O ++ L.take O).getD i [])) := Lib.hid (fun i hi => HL.out.turn O hO i hi)
      have hml : (vs.drop O ++ vs.take O).length = n := by rw [List.length_append, List.length_drop, List.length_take, HL.out.vl]; omega
      have hMl : (L.drop O ++ L.take O).length = n := by rw [List.length_append, List.length_drop, List.length_take, HL.out.ll]; omega
      have hSame : (∀ l ∈ L, l.length ≤ 256) → (clS (L.drop O ++ L.take O)).b = (clS L).b ∧ ∀ l ∈ L.drop O ++ L.take O, l.length ≤ 256 := fun h => ⟨clS_same L O (by rw [HL.out.ll]; omega) h, fun l hm => by
        rcases List.mem_append.1 hm with h1 | h1
        · exact h l (List.mem_of_mem_drop h1)
        · exact h l (List.mem_of_mem_take h1)⟩
      rw [hml] at HO7
      generalize vs.drop O ++ vs.take O = ms at HM HO7
      generalize L.drop O ++ L.take O = M at HM hMl hSame
      have HMl := Lib.hid hMl
      have HSM := Lib.hid hSame
      obtain ⟨sm, cm, rfl, hcm, hsm, hsn⟩ := own_form HO7.out
      obtain ⟨bm, rfl⟩ : ∃ bm, sm = some bm := by
        cases sm with
        | none => have := hsn rfl; omega
        | some bm => exact ⟨bm, rfl⟩
      obtain ⟨gm, rfl, hgm, hgq⟩ := hsm bm rfl
      clear hgm
      clear hml hMl hSame hsm hsn
      go_wp2_with fail
      go_loopw [11] (fun i wr => ∃ j : Nat, j ≤ n ∧ i = .int .i64 j ∧ (∀ k, k < j → (L.getD k []).length ≤ 256) ∧ wr = w7) (fun i _ => n - (intOf i).toNat)
      case atStart => exact ⟨0, Nat.zero_le _, rfl, fun k h => absurd h (Nat.not_lt_zero _), rfl⟩
      case round =>
        obtain ⟨j, hj, rfl, hle, rfl⟩ := hrel
        by_cases hlt2 : j < n
        · skip
          obtain ⟨si, ci, v1, v2, v3, v4⟩ := HL.out.at' j hlt2
          have x0 := below_cell HR7.out.below (HL.out.cell ad rfl j _ v1)
          have HLE := Lib.hid hle
          clear hle v1 v2 v3 v4
          by_cases hbig : 256 < (L.getD j []).length
          · generalize (L.getD j []).length = lj at x0 hbig
            go_wp2_with fail
            go_ret
            exact ⟨rfl, HR7.out.below⟩
          · have HBG : Hid ((L.getD j []).length ≤ 256) := Lib.hid (by omega)
            generalize (L.getD j []).length = lj at x0 hbig
            go_wp2_with fail
            go_roundw
            case rel => exact ⟨j + 1, by omega, by go_num, fun k hk => by
              rcases Nat.lt_or_ge k j with h | h
              · exact HLE.out k h
              · obtain rfl : k = j := by omega
                exact HBG.out, trivial⟩
            case measure => simp [intOf]; omega
        · obtain rfl : n = j := by omega
          have hsmall : ∀ l ∈ L, l.length ≤ 256 := by
            intro l hm
            obtain ⟨k, hk, rfl⟩ := List.getElem_of_mem hm
            have := hle k (by rw [← HL.out.ll]; exact hk)
            simpa [List.getD, hk] using this
          obtain ⟨hbs, hMs⟩ := HSM.out hsmall
          have HBS := Lib.hid hbs
          have hL256 : ∀ i, (L.getD i []).length ≤ 256 := by
            intro i
            by_cases hi : i < L.length
            · simp only [List.getD, List.getElem?_eq_getElem hi, Option.getD_some]
              exact hsmall _ (List.getElem_mem hi)
            · simp [List.getD, List.getElem?_eq_none (Nat.not_lt.1 hi)]
          have hM256 : ∀ i, (M.getD i []).length ≤ 256 := by
            intro i
            by_cases hi : i < M.length
            · simp only [List.getD, List.getElem?_eq_getElem hi, Option.getD_some]
              exact hMs _ (List.getElem_mem hi)
            · simp [List.getD, List.getElem?_eq_none (Nat.not_lt.1 hi)]
          have HL256 := Lib.hid hL256
          have HM256 := Lib.hid hM256
          have HSML := Lib.hid hsmall
          have HMSM := Lib.hid hMs
          have HRA : Hid (ClR w wr p g p2 g2 q (clS (L.take 0)) (clS (M.take 0)) (clW L 0 0)) := Lib.hid (by
            have h1 := HR7.out
            rw [HS0.out] at h1
            rw [clW_zero]
            exact h1)
          clear hle hsmall hbs hMs hL256 hM256 HSM HR7 HS0
          go_wp2_with fail
          go_loopw [12] (fun i wr => ∃ j : Nat, j ≤ n ∧ i = .int .i64 j ∧ ClR w wr p g p2 g2 q (clS (L.take j)) (clS (M.take j)) (clW L j 0) ∧ wr.ownsRow (q + 1) 26 1 (.slice (some ⟨gm, 0, none⟩) n cm) n ms) (fun i _ => n - (intOf i).toNat)
          case atStart => exact ⟨0, Nat.zero_le _, rfl, HRA.out, HO7.out⟩
          case round =>
            obtain ⟨j, hj, rfl, hR, hO⟩ := hrel
            by_cases hlt3 : j < n
            · skip
              obtain ⟨si, ci, v1, v2, v3, v4⟩ := HL.out.at' j hlt3
              obtain ⟨sj, cj, u1, u2, u3, u4'⟩ := HM.out j hlt3
              have x0 := below_cell hR.below (HL.out.cell ad rfl j _ v1)
              have x1 := World.ownsRow.cells hO (g := gm) rfl j _ u1
              rw [show (⟨gm, 0, none⟩ : Addr).add j = ⟨gm, j, none⟩ by unfold Addr.add; split <;> simp_all] at x1
              have hc1 := clS_calm _ (L.take j) rfl
              have hc2 := clS_calm _ (M.take j) rfl
              have hp1 := prog_any p g (clS (L.take j)) 0 si (L.getD j []).length ci (L.getD j []) wr hR.f (v4.below hR.below) (else_old v4 HQ.out.low.1 HQ.out.low.2.1) v2 (fun e => ⟨by have := v3 e; omega, v3 e⟩)
              rw [hc1.progOk, show inB 512 0 ((L.getD j []).length : Int) = true by rw [inB_iff]; have := HL256.out j; omega, ← clS_snoc L j (by rw [HL.out.ll]; exact hlt3)] at hp1
              have hp2 := fun w8 (h8 : ClR w w8 p g p2 g2 q (clS (L.take (j + 1))) (clS (M.take j)) (clW L j 0)) => prog_any p2 g2 (clS (M.take j)) 0 sj (M.getD j []).length cj (M.getD j []) w8 h8.f2 (u4'.below h8.below) (else_old u4' HQ.out.low.2.2.1 HQ.out.low.2.2.2.1) u2 (fun e => ⟨by have := u3 e; omega, u3 e⟩)
              simp only [hc2.progOk, show inB 512 0 ((M.getD j []).length : Int) = true by rw [inB_iff]; have := HM256.out j; omega, ← clS_snoc M j (by rw [HMl.out]; exact hlt3)] at hp2
              have HP1 := Lib.hid hp1
              have HP2 := Lib.hid hp2
              have HV4 := Lib.hid v4
              have HRj := Lib.hid hR
              have HOj := Lib.hid hO
              have HNX := Lib.hid (fun k (hk : (L.getD j []).length ≤ k) => clW_next L j k (by rw [HL.out.ll]; exact hlt3) hk)
              have HST := Lib.hid (fun k (hk : k < (L.getD j []).length) (hk2 : k < 256) => clW_set L j k (by rw [HL.out.ll]; exact hlt3) hk hk2)
              have HJ := Lib.hid (HL256.out j)
              have HAD : Hid (ad.block < w.heap.size) := Lib.hid (by have := World.block_lt_of_cell? w _ (HL.out.cell ad rfl j _ v1); rwa [block_add] at this)
              clear hR hO v1 u1 hp1 hp2 hc1 hc2 v3 v4 u3 u4'
              generalize (L.getD j []) = xl at x0 HP1 HV4 HNX HST HJ v2
              generalize (M.getD j []) = ym at x1 HP2 u2
              generalize xl.length = ln at x0 HP1 HV4 HNX HST HJ v2
              generalize ym.length = lm at x1 HP2 u2
              go_upto_region 21 with (go_at_call 7; go_loud (refine HP1.out.mono ?_; rintro e w8 ⟨rfl, hf8, hk8, hz8⟩; have HR8 := Lib.hid (HRj.out.one HQ.out hk8 hf8); have HO8 : Hid (w8.ownsRow (q + 1) 26 1 (.slice (some ⟨gm, 0, none⟩) n cm) n ms) := Lib.hid (own_far HOj.out hk8 (by have := HW4.out; rintro x (rfl | rfl) <;> omega)); have y0 := hk8.cellX x0 (by rw [block_add]; have := HAD.out; have := HQ.out.low; omega); have y1 := hk8.cellX x1 (by have := HW4.out; show ¬ (gm = p ∨ gm = g); omega); clear hf8 hk8 hz8))
              clear x0 x1 HP1
              go_upto_region 22 with (go_at_call 7; refine (HP2.out _ HR8.out).mono ?_; rintro e w9 ⟨rfl, hf9, hk9, hz9⟩; have HR9 := Lib.hid (HR8.out.two HQ.out hk9 hf9); have HO9 : Hid (w9.ownsRow (q + 1) 26 1 (.slice (some ⟨gm, 0, none⟩) n cm) n ms) := Lib.hid (own_far HO8.out hk9 (by have := HW4.out; rintro x (rfl | rfl) <;> omega)); have z0 := hk9.cellX y0 (by rw [block_add]; have := HAD.out; have := HQ.out.low; omega); clear hf9 hk9 hz9)
              clear y0 y1 HP2 HR8 HO8 HRj HOj
              go_wp2_with fail
              go_loopw [15] (fun i wr => ∃ k : Nat, k ≤ ln ∧ i = .int .i64 k ∧ ClR w wr p g p2 g2 q (clS (L.take (j + 1))) (clS (M.take (j + 1))) (clW L j k) ∧ wr.ownsRow (q + 1) 26 1 (.slice (some ⟨gm, 0, none⟩) n cm) n ms ∧ wr.cell? (ad.add j) = some (.slice si ln ci)) (fun i _ => ln - (intOf i).toNat)
              case atStart => exact ⟨0, Nat.zero_le _, rfl, HR9.out, HO9.out, z0⟩
              case round =>
                obtain ⟨k, hk, rfl, hR, hO, x0⟩ := hrel
                by_cases hlt4 : k < ln
                · obtain ⟨bi, rfl, hc0⟩ := HV4.out.cell k hlt4
                  have x1 := below_cell hR.below hc0
                  have hk256 : k < 256 := by have := HJ.out; omega
                  have x2 := cell_blk hR.q k
                  rw [row8_get _ _ _ (by rw [clW_len]; exact hk256)] at x2
                  have x3 := free_blk hR.q k
                  have hset := HST.out k hlt4 hk256
                  have HR5 := Lib.hid (hR.set HQ.out k (by rw [clW_len]; exact hk256) (bits .and .u8 ((clW L j k).getD k 0) (xl.getD k 0)))
                  rw [hset] at HR5
                  have HO5 : ∀ v, Hid ((wr.setCell ⟨q, k, none⟩ v).ownsRow (q + 1) 26 1 (.slice (some ⟨gm, 0, none⟩) n cm) n ms) := fun v => Lib.hid (own_far hO ((Kept.refl (fun x => x = q) wr).at k v) (by rintro x rfl; omega))
                  have HC5 : ∀ v, Hid ((wr.setCell ⟨q, k, none⟩ v).cell? (ad.add j) = some (.slice (some bi) ln ci)) := fun v => Lib.hid (((Kept.refl (fun x => x = q) wr).at k v).cellX x0 (by rw [block_add]; have := HAD.out; have := HQ.out.low; omega))
                  clear hR hO hc0 hset
                  generalize (clW L j k).getD k 0 = va at x2 HR5
                  generalize xl.getD k 0 = vb at x1 HR5
                  go_wp2_with fail
                  go_region
                  go_wp2_with fail
                  go_roundw
                  case rel => exact ⟨k + 1, by omega, by go_num, HR5.out.drewN _, (HO5 _).out, (HC5 _).out⟩
                  case measure => simp [intOf]; omega
                · have hnx := HNX.out k (Nat.not_lt.1 hlt4)
                  rw [hnx] at hR
                  have HR5 := Lib.hid hR
                  have HO5 := Lib.hid hO
                  clear hR hO hnx
                  go_wp2_with fail
                  go_roundw
                  case rel => exact ⟨j + 1, by omega, by go_num, HR5.out, HO5.out⟩
                  case measure => simp [intOf]; omega
            · obtain rfl : n = j := by omega
              have eL : L.take n = L := List.take_of_length_le (by rw [HL.out.ll]; exact Nat.le_refl _)
              have eM : M.take n = M := List.take_of_length_le (by rw [HMl.out]; exact Nat.le_refl _)
              have eW : clW L n 0 = (clS L).read 0 256 := by
                have := clW_end L (by rw [HL.out.ll]; omega) HSML.out
                rwa [HL.out.ll] at this
              rw [eL, eM, eW] at hR
              have hcL := clS_calm _ L rfl
              have hrd := fun u h => read_any p g (clS L) 0 256 u h
              rw [hcL.readOk, show inB 512 0 256 = true by decide] at hrd
              have hro : (clS L).readOk 0 256 = true := by rw [hcL.readOk]; decide
              obtain ⟨S1, hS1⟩ : ∃ S, S = strOfNums ((clS L).read 0 256) := ⟨_, rfl⟩
              obtain ⟨S2, hS2⟩ : ∃ S, S = strOfNums (clS L).b := ⟨_, rfl⟩
              have hRD : ∀ u, IsFl u p g (clS L) → Calls Try.prog 8 #[.pointer (some ⟨p, 0, none⟩), .int .i64 0, .int .i64 256] u fun e w' => ∃ v, e = .returned (.tuple #[v, .bool true]) ∧ (∀ u', Below w'.heap.size w' u' → (convert 26 9 v).run Try.prog u' = .ok (.string S1) u') ∧ Below u.heap.size u w' := by
                intro u h
                refine (read_any p g (clS L) 0 256 u h).mono ?_
                rintro e w' ⟨v, rfl, ho, -, hb⟩
                rw [hro]
                refine ⟨v, rfl, fun u' k => ?_, hb⟩
                rw [hS1]
                exact ((ho hro).kept (T := fun _ => False) (Kept.of_below k) (fun _ _ _ => id)).str
              have hIM : ∀ u p g s, s.b = (clS L).b → IsFl u p g s → Calls Try.prog 9 #[.pointer (some ⟨p, 0, none⟩)] u fun e w' => ∃ v, e = .returned v ∧ (∀ u', Below w'.heap.size w' u' → (convert 26 9 v).run Try.prog u' = .ok (.string S2) u') ∧ Below u.heap.size u w' := by
                intro u p g s e0 h
                refine (image_any p g s u h).mono ?_
                rintro e w' ⟨v, rfl, ho, hb⟩
                refine ⟨v, rfl, fun u' k => ?_, hb⟩
                rw [hS2, ← e0]
                exact (ho.kept (T := fun _ => False) (Kept.of_below k) (fun _ _ _ => id)).str
              have hwq : ∀ u, ClR w u p g p2 g2 q (clS L) (clS M) ((clS L).read 0 256) → (convert 26 9 (.slice (some ⟨q, 0, none⟩) 256 256)).run Try.prog u = .ok (.string S1) u := by
                intro u h
                rw [hS1]
                have h1 := src_blk h.q
                rw [show ((clS L).read 0 256).length = 256 by simp [Fl.read, hcL.len]] at h1
                exact src_str h1 (fun a e => by cases e; rfl)
              obtain ⟨f1, f2, f3, f4⟩ := clS_erased L (by rw [HL.out.ll]; omega) HSML.out
              have hER := fun u h => erase_any p g (clS L) 0 u h
              rw [f4] at hER
              have hq1 : (S1.toList == S1.toList) = true := by simp
              have hq2 : (S2.toList == S2.toList) = true := by simp
              have hHF := fun u (h : ClR w u p g p2 g2 q (clS L) (clS M) ((clS L).read 0 256)) => hIM u p g _ rfl h.f
              have hHG := fun u (h : ClR w u p g p2 g2 q (clS L) (clS M) ((clS L).read 0 256)) => hIM u p2 g2 _ HBS.out h.f2
              have HRD := Lib.hid hRD
              have HHF := Lib.hid hHF
              have HHG := Lib.hid hHG
              have HWQ := Lib.hid hwq
              have HRj := Lib.hid hR
              have HER := Lib.hid hER
              have HF1 := Lib.hid f1
              have HF2 := Lib.hid f2
              have HF3 : Hid (((clS L).erase 0).pr = n) := Lib.hid (by rw [f3, HL.out.ll])
              clear hR hO eL eM eW hcL hrd hro hS1 hS2 hRD hIM hwq f1 f2 f3 f4 hER hHF hHG HBS HSML HMSM HL256 HM256 HM HMl HRA HO7
              generalize (clS L).erase 0 = t1 at HER HF1 HF2 HF3
              generalize clS L = s1 at HRD HHF HHG HWQ HRj HER
              generalize clS M = s2 at HHF HHG HWQ HRj
              generalize s1.read 0 256 = W1 at HHF HHG HWQ HRj
              go_upto_region 29 with (go_at_call 8; refine (HRD.out _ HRj.out.f).mono ?_; rintro e w8 ⟨v8, rfl, hc8, hb8⟩; have HC8 := Lib.hid hc8; have HR8 := Lib.hid (HRj.out.fresh hb8); clear hc8 hb8)
              have HR9 := Lib.hid (HR8.out.drewN 1)
              have c1 : (convert 26 9 v8).run Try.prog w8.drew = .ok (.string S1) w8.drew := HC8.out _ (Below.drewN (Below.refl _ w8) 1)
              have c2 : (convert 26 9 (.slice (some ⟨q, 0, none⟩) 256 256)).run Try.prog w8.drew = .ok (.string S1) w8.drew := HWQ.out _ HR9.out
              go_region_with (first | (go_at_call 9; refine (HHF.out _ HR9.out).mono ?_; rintro e w9 ⟨v9, rfl, hc9, hb9⟩; have c3 := hc9 w9 (Below.refl _ _); have HRa := Lib.hid (HR9.out.fresh hb9)) | (go_at_call 9; refine (HHG.out _ HRa.out).mono ?_; rintro e w10 ⟨v10, rfl, hc10, hb10⟩; have c4 := hc10 w10 (Below.refl _ _); have c5 := hc9 w10 hb10; have HRb := Lib.hid (HRa.out.fresh hb10)))
              all_goals
                go_upto_region 31 with (go_at_call 10; refine (HER.out _ HRb.out.f).mono ?_; rintro e w11 ⟨rfl, hf11, hk11, -⟩; have HR11 := Lib.hid (HRb.out.one HQ.out hk11 hf11); clear hf11 hk11)
                go_upto_region 32 with (go_at_call 9; refine (image_any p g t1 _ HR11.out.f).mono ?_; rintro e w12 ⟨v12, rfl, ho12, hb12⟩; have HR12 := Lib.hid (HR11.out.fresh hb12); have HO12 := Lib.hid ho12; clear ho12 hb12)
                obtain ⟨gi, capi, spi, rfl, -, hgi, hgc, -⟩ := HO12.out
                rw [HF1.out] at hgi hgc
                rw [HF1.out]
                rw [List.length_replicate] at hgc ⊢
                have HGI := Lib.hid hgi
                clear hgi hgc HO12
                go_wp2_with fail
                go_loopw [21] (fun i wr => ∃ j : Nat, j ≤ 512 ∧ i = .int .i64 j ∧ wr = w12) (fun i _ => 512 - (intOf i).toNat)
                case atStart => exact ⟨0, Nat.zero_le _, rfl, rfl⟩
                case round =>
                  obtain ⟨j, hj, rfl, rfl⟩ := hrel
                  by_cases hlt6 : j < 512
                  · have x0 := cell_blk HGI.out j
                    rw [row8_get _ _ _ (by rw [List.length_replicate]; exact hlt6)] at x0
                    rw [show (List.replicate 512 (255 : Int)).getD j 0 = 255 by simp only [List.getD, List.getElem?_replicate, hlt6, if_true, Option.getD_some]] at x0
                    go_wp2_with fail
                    go_roundw
                    case rel => exact ⟨j + 1, by omega, by go_num, trivial⟩
                    case measure => simp [intOf]; omega
                  · have hto := fun u h => toll_any p g t1 u h
                    rw [HF2.out, HF3.out] at hto
                    have h1 := flt_eq n (by omega)
                    have h2 := flt_one.2
                    rw [flt_one.1] at hto
                    have HTO := Lib.hid hto
                    clear hto
                    go_wp2_with (go_at_call 11; refine (HTO.out _ HR12.out.f).mono ?_; rintro e w13 ⟨rfl, n13, rfl⟩)
                    go_ret
                    exact ⟨by rw [show floatOfInt FloatKind.f64 (n : Int) = flt n from rfl, h1]; rfl, Go.Proofs.Ytcecgbjpmegljaa.Below.drewN HR12.out.below n13⟩
end Go.Proofs.Ytcecgbjpmegljaa
