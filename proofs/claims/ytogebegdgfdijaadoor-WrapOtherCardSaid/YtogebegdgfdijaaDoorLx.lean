/- A region walked once an operation, told by predicates: of each operation what its value is, of each block what it holds. Over any program; no condition. -/
import Derived.Test.YtogebegdgfdijaaDoorMa
namespace Go.Proofs.YtogebegdgfdijaaDoor
open Go.RowKit
abbrev OP := Obj → Prop
/-- What an operation leaves: what its value is, the block that it makes. -/
structure Sp where
  val : Value → Prop
  obj : Value → Option (Nat × OP)
/-- Each named block holds what is said of it, none is named twice. -/
structure Holds (T : Nat → Prop) (w u : World) (L : Nat → Option (Nat × OP)) : Prop where
  mem : ∀ i g p, L i = some (g, p) → (∃ o, u.heap[g]? = some o ∧ p o) ∧ (T g ∨ w.heap.size ≤ g)
  inj : ∀ i j g p q, L i = some (g, p) → L j = some (g, q) → i = j
  keep : Kept T w u
theorem Holds.lt {T : Nat → Prop} {w u : World} {L : Nat → Option (Nat × OP)} (h : Holds T w u L) {i g : Nat} {p : OP} (hi : L i = some (g, p)) : g < u.heap.size := let ⟨⟨_, ho, _⟩, _⟩ := h.mem i g p hi; blk_lt ho
theorem Holds.below {T : Nat → Prop} {w u u' : World} {L : Nat → Option (Nat × OP)} (h : Holds T w u L) (b : Below u.heap.size u u') : Holds T w u' L :=
  ⟨fun i g p hi => let ⟨⟨o, ho, hp⟩, hT⟩ := h.mem i g p hi; ⟨⟨o, Below.blk b ho (blk_lt ho), hp⟩, hT⟩, h.inj, h.keep.trans (Kept.of_below b)⟩
theorem Holds.drew {T : Nat → Prop} {w u : World} {L : Nat → Option (Nat × OP)} (h : Holds T w u L) : Holds T w u.drew L := ⟨h.mem, h.inj, h.keep.drew⟩
theorem Holds.drewN {T : Nat → Prop} {w u : World} {L : Nat → Option (Nat × OP)} (h : Holds T w u L) (n : Nat) : Holds T w (u.drewN n) L := ⟨h.mem, h.inj, h.keep.drewN n⟩
theorem Holds.new {T : Nat → Prop} {w u u' : World} {L : Nat → Option (Nat × OP)} (h : Holds T w u L) (κ : Nat) {g : Nat} {p : OP} {o : Obj} (b : Below u.heap.size u u') (hg : u.heap.size ≤ g) (ho : u'.heap[g]? = some o) (hp : p o) :
    Holds T w u' (fun i => if i = κ then some (g, p) else L i) := by
  have h' := h.below b
  refine ⟨fun i g' p' hi => ?_, fun i j g' p' q' hi hj => ?_, h'.keep⟩
  · by_cases e : i = κ
    · rw [if_pos e] at hi
      cases hi
      exact ⟨⟨o, ho, hp⟩, .inr (Nat.le_trans h.keep.size hg)⟩
    · rw [if_neg e] at hi
      exact h'.mem i g' p' hi
  · by_cases e : i = κ <;> by_cases e' : j = κ
    · rw [e, e']
    · rw [if_pos e] at hi
      rw [if_neg e'] at hj
      cases hi
      exact absurd (h.lt hj) (by omega)
    · rw [if_neg e] at hi
      rw [if_pos e'] at hj
      cases hj
      exact absurd (h.lt hi) (by omega)
    · rw [if_neg e] at hi
      rw [if_neg e'] at hj
      exact h.inj i j g' p' q' hi hj
theorem Holds.put {T : Nat → Prop} {w u u' : World} {L : Nat → Option (Nat × OP)} (h : Holds T w u L) (κ : Nat) {g : Nat} {p q : OP} {o : Obj} (hk : L κ = some (g, p)) (k : Kept (· = g) u u') (ho : u'.heap[g]? = some o) (hq : q o) :
    Holds T w u' (fun i => if i = κ then some (g, q) else L i) := by
  refine ⟨fun i g' p' hi => ?_, fun i j g' p' q' hi hj => ?_, h.keep.trans_new k ?_⟩
  · by_cases e : i = κ
    · rw [if_pos e] at hi
      cases hi
      exact ⟨⟨o, ho, hq⟩, (h.mem κ g p hk).2⟩
    · rw [if_neg e] at hi
      obtain ⟨⟨o', ho', hp'⟩, hT⟩ := h.mem i g' p' hi
      exact ⟨⟨o', k.blk ho' (fun eg => e (h.inj i κ g' p' p hi (eg ▸ hk))), hp'⟩, hT⟩
  · have un : ∀ m r, (if m = κ then some (g, q) else L m) = some (g', r) → ∃ r', L m = some (g', r') := by
      intro m r hm
      by_cases e : m = κ
      · rw [if_pos e] at hm
        cases hm
        exact ⟨p, e ▸ hk⟩
      · rw [if_neg e] at hm
        exact ⟨_, hm⟩
    obtain ⟨r1, h1⟩ := un i p' hi
    obtain ⟨r2, h2⟩ := un j q' hj
    exact h.inj i j g' r1 r2 h1 h2
  · rintro i hi rfl
    rcases (h.mem κ i p hk).2 with hT | hw
    · exact hT
    · exact absurd hi (by omega)
/-! ### Which operations come ahead of which -/
inductive Ahead (l : List Oper) : Nat → Nat → Prop
  | one {i j : Nat} : waitsOn l i j = true → Ahead l i j
  | more {i j k : Nat} : waitsOn l i j = true → Ahead l j k → Ahead l i k
theorem Ahead.some {l : List Oper} {f : Fill} (hc : Closed l f) {i j : Nat} (h : Ahead l i j) : (f i).isSome = true → (f j).isSome = true := by
  induction h with
  | one hw => exact fun hi => hc.up _ _ hw hi
  | more hw _ ih => exact fun hi => ih (hc.up _ _ hw hi)
theorem Ahead.up {l : List Oper} {f : Fill} (hc : Closed l f) {i j : Nat} (hu : ∀ j, waitsOn l i j = true → (f j).isSome = true) (h : Ahead l i j) : (f j).isSome = true := by
  cases h with
  | one hw => exact hu _ hw
  | more hw h => exact h.some hc (hu _ hw)
theorem Ahead.down {l : List Oper} {f : Fill} (hc : Closed l f) {i j : Nat} (h : Ahead l i j) (hj : f j = none) : f i = none := by
  cases hi : f i with
  | none => rfl
  | some v => have := h.some hc (by rw [hi]; rfl); rw [hj] at this; cases this
def mask (acc : List Nat) (es : List Edge) : Nat := es.foldl (fun s e => if Region.binds .any e = true then s ||| 2 ^ e.on ||| acc.getD e.on 0 else s) 0
def anc (l : List Oper) : List Nat := l.foldl (fun acc o => acc ++ [mask acc o.after.toList]) []
theorem mask_bit (acc : List Nat) (j : Nat) : ∀ (es : List Edge) (s : Nat), (es.foldl (fun s e => if Region.binds .any e = true then s ||| 2 ^ e.on ||| acc.getD e.on 0 else s) s).testBit j = true →
    s.testBit j = true ∨ ∃ e ∈ es, Region.binds .any e = true ∧ (e.on = j ∨ (acc.getD e.on 0).testBit j = true)
  | [], s, h => .inl h
  | e :: es, s, h => by
    rw [List.foldl_cons] at h
    rcases mask_bit acc j es _ h with h1 | ⟨e', he', h2⟩
    · split at h1
      · rename_i hb
        rw [Nat.testBit_or, Nat.testBit_or, Bool.or_eq_true, Bool.or_eq_true] at h1
        rcases h1 with (h1 | h1) | h1
        · exact .inl h1
        · refine .inr ⟨e, List.mem_cons_self .., hb, .inl ?_⟩
          rw [Nat.testBit_two_pow] at h1
          simpa using h1
        · exact .inr ⟨e, List.mem_cons_self .., hb, .inr h1⟩
      · exact .inl h1
    · exact .inr ⟨e', List.mem_cons_of_mem _ he', h2⟩
theorem anc_ahead {l : List Oper} : ∀ (rest done : List Oper) (acc : List Nat), l = done ++ rest → acc.length = done.length → (∀ i j, (acc.getD i 0).testBit j = true → Ahead l i j) →
    ∀ i j, ((rest.foldl (fun acc o => acc ++ [mask acc o.after.toList]) acc).getD i 0).testBit j = true → Ahead l i j
  | [], _, _, _, _, h => h
  | o :: rest, done, acc, hl, hn, h => by
    rw [List.foldl_cons]
    refine anc_ahead rest (done ++ [o]) _ (by simp [hl]) (by simp [hn]) fun i j hij => ?_
    by_cases hlt : i < acc.length
    · refine h i j ?_
      rwa [List.getD, List.getElem?_append_left hlt, ← List.getD] at hij
    · by_cases he : i = acc.length
      · subst he
        rw [List.getD, List.getElem?_append_right (Nat.le_refl _), Nat.sub_self] at hij
        simp only [List.getElem?_cons_zero, Option.getD_some] at hij
        have ho : l[acc.length]? = some o := by rw [hl, hn, List.getElem?_append_right (Nat.le_refl _), Nat.sub_self]; rfl
        rcases mask_bit acc j _ 0 hij with h0 | ⟨e, he, hb, h1⟩
        · simp at h0
        · have hw : waitsOn l acc.length e.on = true := by
            unfold waitsOn
            rw [ho]
            exact Array.any_eq_true'.2 ⟨e, by simpa using he, by simp [hb]⟩
          rcases h1 with h1 | h1
          · exact h1 ▸ .one hw
          · exact .more hw (h _ _ h1)
      · rw [List.getD, List.getElem?_eq_none (by simp; omega)] at hij
        simp at hij
/-- Is k ahead of i? Behind it? -/
def know (l : List Oper) (i k : Nat) : Option Bool := if ((anc l).getD i 0).testBit k = true then some true else if ((anc l).getD k 0).testBit i = true then some false else none
theorem know_is {l : List Oper} {f : Fill} (hc : Closed l f) {i k : Nat} (hi : f i = none) (hu : ∀ j, waitsOn l i j = true → (f j).isSome = true) {b : Bool} (h : know l i k = some b) : (f k).isSome = b := by
  have A : ∀ i j, ((anc l).getD i 0).testBit j = true → Ahead l i j := anc_ahead l [] [] rfl rfl (fun i j h => by simp at h)
  unfold know at h
  split at h
  · rename_i h1
    cases h
    exact (A _ _ h1).up hc hu
  · split at h
    · rename_i h1
      cases h
      rw [(A _ _ h1).down hc hi]
      rfl
    · cases h
/-! ### What each block holds while some operations have come up -/
abbrev Put := Nat × Nat × OP
def base (old : List (Nat × OP)) (sp : List Sp) (f : Fill) (κ : Nat) : Option (Nat × OP) :=
  if κ < old.length then old[κ]? else match sp[κ - old.length]?, f (κ - old.length) with | some s, some v => s.obj v | _, _ => none
def putOn (pt : List Put) (f : Fill) (κ : Nat) (p : OP) : OP := pt.foldl (fun p e => if e.2.1 = κ ∧ (f e.1).isSome = true then e.2.2 else p) p
def holdAt (old : List (Nat × OP)) (sp : List Sp) (pt : List Put) (f : Fill) (κ : Nat) : Option (Nat × OP) := (base old sp f κ).map fun x => (x.1, putOn pt f κ x.2)
def knPut (kn : Nat → Option Bool) : List Put → Nat → OP → Option OP
  | [], _, p => some p
  | (k, κ', q) :: r, κ, p => if κ' = κ then (match kn k with | some true => knPut kn r κ q | some false => knPut kn r κ p | none => none) else knPut kn r κ p
theorem knPut_is {kn : Nat → Option Bool} {f : Fill} (hk : ∀ k b, kn k = some b → (f k).isSome = b) : ∀ (pt : List Put) (κ : Nat) (p q : OP), knPut kn pt κ p = some q → putOn pt f κ p = q
  | [], _, _, _, h => by cases h; rfl
  | (k, κ', q0) :: r, κ, p, q, h => by
    unfold knPut at h
    show putOn r f κ (if κ' = κ ∧ (f k).isSome = true then q0 else p) = q
    by_cases e : κ' = κ
    · rw [if_pos e] at h
      split at h
      · rename_i h1
        rw [if_pos ⟨e, hk _ _ h1⟩]
        exact knPut_is hk r κ _ q h
      · rename_i h1
        rw [if_neg (by rw [hk _ _ h1]; simp)]
        exact knPut_is hk r κ _ q h
      · cases h
    · rw [if_neg e] at h
      rw [if_neg (fun h => e h.1)]
      exact knPut_is hk r κ _ q h
def noPut (pt : List Put) (i : Nat) : Bool := pt.all fun e => e.1 != i
theorem putOn_upd (pt : List Put) (f : Fill) (i : Nat) (v : Value) (h : noPut pt i = true) (κ : Nat) : ∀ p, putOn pt (f.upd i v) κ p = putOn pt f κ p := by
  induction pt with
  | nil => intro p; rfl
  | cons e r ih =>
    intro p
    simp only [noPut, List.all_cons, Bool.and_eq_true, bne_iff_ne] at h
    have h1 : f.upd i v e.1 = f e.1 := by simp only [Fill.upd]; rw [if_neg h.1]
    show putOn r (f.upd i v) κ (if e.2.1 = κ ∧ (f.upd i v e.1).isSome = true then e.2.2 else p) = putOn r f κ (if e.2.1 = κ ∧ (f e.1).isSome = true then e.2.2 else p)
    rw [h1]
    exact ih h.2 _
theorem base_upd (old : List (Nat × OP)) (sp : List Sp) (f : Fill) (i : Nat) (v : Value) (κ : Nat) : base old sp (f.upd i v) κ = if κ = old.length + i then (sp[i]?).bind (·.obj v) else base old sp f κ := by
  unfold base
  by_cases e : κ = old.length + i
  · rw [if_pos e, if_neg (by omega), show κ - old.length = i by omega]
    simp only [Fill.upd, if_pos]
    cases sp[i]? <;> rfl
  · rw [if_neg e]
    split
    · rfl
    · have : f.upd i v (κ - old.length) = f (κ - old.length) := by simp only [Fill.upd]; rw [if_neg (by omega)]
      rw [this]
theorem base_none (old : List (Nat × OP)) (sp : List Sp) (f : Fill) (i : Nat) (h : f i = none) : base old sp f (old.length + i) = none := by
  unfold base
  rw [if_neg (by omega), show old.length + i - old.length = i by omega, h]
  split <;> simp_all
section
variable {old : List (Nat × OP)} {sp : List Sp} {pt : List Put} {f : Fill} {i : Nat} {s : Sp} {v : Value}
theorem holdAt_same (hs : sp[i]? = some s) (ho : s.obj v = none) (hf : f i = none) (hp : noPut pt i = true) : holdAt old sp pt (f.upd i v) = holdAt old sp pt f := by
  funext κ
  unfold holdAt
  rw [base_upd]
  simp only [putOn_upd pt f i v hp]
  split
  · rename_i e
    rw [e, base_none _ _ _ _ hf, hs]
    simp [ho]
  · rfl
theorem holdAt_new {g : Nat} {p : OP} (hs : sp[i]? = some s) (ho : s.obj v = some (g, p)) (hp : noPut pt i = true) (hn : ∀ e ∈ pt, e.2.1 = old.length + i → f e.1 = none) :
    holdAt old sp pt (f.upd i v) = fun κ => if κ = old.length + i then some (g, p) else holdAt old sp pt f κ := by
  funext κ
  unfold holdAt
  rw [base_upd]
  simp only [putOn_upd pt f i v hp]
  split
  · rename_i e
    rw [hs]
    simp only [Option.bind_some, ho, Option.map_some, Option.some.injEq, Prod.mk.injEq, true_and]
    have : ∀ (pt : List Put), (∀ e ∈ pt, e.2.1 = old.length + i → f e.1 = none) → ∀ p, putOn pt f κ p = p := by
      intro pt
      induction pt with
      | nil => intro _ p; rfl
      | cons x r ih =>
        intro h p
        show putOn r f κ (if x.2.1 = κ ∧ (f x.1).isSome = true then x.2.2 else p) = p
        rw [if_neg (fun hx => by rw [h x (List.mem_cons_self ..) (hx.1.trans e)] at hx; exact absurd hx.2 (by simp))]
        exact ih (fun y hy => h y (List.mem_cons_of_mem _ hy)) p
    exact this pt hn p
  · rfl
def putChk (kn : Nat → Option Bool) (i κ : Nat) : List Put → Option OP
  | [] => none
  | (k, κ', q) :: r => if k = i then (if (κ' == κ && r.all fun e => e.1 != i && (e.2.1 != κ || kn e.1 == some false)) = true then some q else none) else putChk kn i κ r
theorem putChk_is {kn : Nat → Option Bool} (hk : ∀ k b, kn k = some b → (f k).isSome = b) {κ : Nat} : ∀ (pt : List Put) (q : OP), putChk kn i κ pt = some q →
    (∀ p, putOn pt (f.upd i v) κ p = q) ∧ (∀ κ', κ' ≠ κ → ∀ p, putOn pt (f.upd i v) κ' p = putOn pt f κ' p)
  | [], _, h => by cases h
  | (k, κ0, q0) :: r, q, h => by
    unfold putChk at h
    by_cases e : k = i
    · rw [if_pos e] at h
      subst e
      split at h
      · rename_i h1
        cases h
        simp only [Bool.and_eq_true, beq_iff_eq, List.all_eq_true, bne_iff_ne, Bool.or_eq_true] at h1
        obtain ⟨rfl, h2⟩ := h1
        have hn : noPut r k = true := by
          simp only [noPut, List.all_eq_true, bne_iff_ne]
          exact fun e he => (h2 e he).1
        have hid : ∀ (r : List Put), (∀ e ∈ r, e.1 ≠ k ∧ (e.2.1 ≠ κ0 ∨ kn e.1 = some false)) → ∀ p, putOn r f κ0 p = p := by
          intro r
          induction r with
          | nil => intro _ p; rfl
          | cons x r ih =>
            intro h p
            show putOn r f κ0 (if x.2.1 = κ0 ∧ (f x.1).isSome = true then x.2.2 else p) = p
            rw [if_neg (fun hx => by
              rcases (h x (List.mem_cons_self ..)).2 with h3 | h3
              · exact h3 hx.1
              · rw [hk _ _ h3] at hx; exact absurd hx.2 (by simp))]
            exact ih (fun y hy => h y (List.mem_cons_of_mem _ hy)) p
        refine ⟨fun p => ?_, fun κ' hne p => ?_⟩
        · show putOn r (f.upd k v) κ0 (if κ0 = κ0 ∧ (f.upd k v k).isSome = true then q0 else p) = q0
          rw [putOn_upd r f k v hn, if_pos ⟨rfl, by simp [Fill.upd]⟩]
          exact hid r h2 q0
        · show putOn r (f.upd k v) κ' (if κ0 = κ' ∧ (f.upd k v k).isSome = true then q0 else p) = putOn r f κ' (if κ0 = κ' ∧ (f k).isSome = true then q0 else p)
          rw [putOn_upd r f k v hn, if_neg (fun h => hne h.1.symm), if_neg (fun h => hne h.1.symm)]
      · cases h
    · rw [if_neg e] at h
      obtain ⟨h1, h2⟩ := putChk_is hk r q h
      have h3 : f.upd i v k = f k := by simp only [Fill.upd]; rw [if_neg e]
      refine ⟨fun p => h1 _, fun κ' hne p => ?_⟩
      show putOn r (f.upd i v) κ' (if κ0 = κ' ∧ (f.upd i v k).isSome = true then q0 else p) = _
      rw [h3]
      exact h2 κ' hne _
theorem holdAt_put {kn : Nat → Option Bool} (hk : ∀ k b, kn k = some b → (f k).isSome = b) {κ g : Nat} {p q : OP} (hs : sp[i]? = some s) (ho : s.obj v = none) (hf : f i = none) (hp : putChk kn i κ pt = some q) (hh : holdAt old sp pt f κ = some (g, p)) :
    holdAt old sp pt (f.upd i v) = fun κ' => if κ' = κ then some (g, q) else holdAt old sp pt f κ' := by
  obtain ⟨h1, h2⟩ := putChk_is (v := v) hk pt q hp
  have hb : ∀ κ', base old sp (f.upd i v) κ' = base old sp f κ' := by
    intro κ'
    rw [base_upd]
    split
    · rename_i e
      rw [e, base_none _ _ _ _ hf, hs]
      simp [ho]
    · rfl
  funext κ'
  by_cases e : κ' = κ
  · subst e
    rw [if_pos rfl]
    unfold holdAt at hh ⊢
    rw [hb]
    cases hx : base old sp f κ' with
    | none => rw [hx] at hh; cases hh
    | some x =>
      rw [hx] at hh
      simp only [Option.map_some, Option.some.injEq, Prod.mk.injEq] at hh ⊢
      exact ⟨hh.1, h1 _⟩
  · rw [if_neg e]
    unfold holdAt
    rw [hb]
    simp only [h2 κ' e]
end
end Go.Proofs.YtogebegdgfdijaaDoor
