/- A region walked once an operation, each operation told in one line: what its value is (in symbols), which block it makes or turns. Over any program; no condition. -/
import Derived.Test.YtogebegdgfdijaaDoorLx
namespace Go.Proofs.YtogebegdgfdijaaDoor
open Go.RowKit
set_option linter.unusedSimpArgs false
set_option linter.unusedVariables false
/-- A value in symbols: told, a pointer (a slice) into the block that operation j has made, what operation j has left. -/
inductive SV where
  | c (v : Value)
  | q (j off : Nat)
  | sl (j off n m : Nat)
  | r (j : Nat)
def blkOf : Option Value → Nat
  | some (.pointer (some a)) => a.block
  | some (.slice (some a) _ _) => a.block
  | _ => 0
def den (f : Fill) : SV → Value
  | .c v => v
  | .q j off => .pointer (some ⟨blkOf (f j), off, none⟩)
  | .sl j off n m => .slice (some ⟨blkOf (f j), off, none⟩) n m
  | .r j => (f j).getD undef
def SV.ref : SV → Option Nat
  | .c _ => none
  | .q j _ => some j
  | .sl j _ _ _ => some j
  | .r j => some j
/-- What is claimed of an operation's value. -/
inductive CL where
  | v (x : SV)
  | soft (S : Value → Prop)
  | new
  | mk (n : Nat)
def CL.ok (f : Fill) (v : Value) : CL → Prop
  | .v x => v = den f x
  | .soft S => S v
  | .new => ∃ g : Nat, v = .pointer (some ⟨g, 0, none⟩)
  | .mk n => ∃ g : Nat, v = .slice (some ⟨g, 0, none⟩) n n
def CL.ref : CL → Option Nat
  | .v x => x.ref
  | _ => none
/-- An operation's value, seen by the later ones. -/
def CL.sv (j : Nat) : CL → SV
  | .v x => x
  | .soft _ => .r j
  | .new => .q j 0
  | .mk n => .sl j 0 n n
def CL.isNew : CL → Bool
  | .new => true
  | .mk _ => true
  | _ => false
structure Sy where
  cl : CL
  obj : Option OP := none
def ptrObj (p : OP) (v : Value) : Option (Nat × OP) := match v with
  | .pointer (some a) => some (a.block, p)
  | .slice (some a) _ _ => some (a.block, p)
  | _ => none
def Sy.sp (s : Sy) : Sp := ⟨fun _ => True, fun v => match s.obj with | some p => ptrObj p v | none => none⟩
def wfB (l : List Oper) (sy : List Sy) : Bool := (List.range sy.length).all fun i => match (sy[i]?).bind (·.cl.ref) with
  | some j => ((anc l).getD i 0).testBit j
  | none => true
/-- What holds while the operations of f have come up. -/
structure SJ (T : Nat → Prop) (w : World) (old : List (Nat × OP)) (sy : List Sy) (pt : List Put) (f : Fill) (u : World) : Prop where
  val : ∀ i v, f i = some v → ∃ s, sy[i]? = some s ∧ s.cl.ok f v
  mem : Holds T w u (holdAt old (sy.map Sy.sp) pt f)
theorem anc_is {l : List Oper} {i j : Nat} (h : ((anc l).getD i 0).testBit j = true) : Ahead l i j := anc_ahead l [] [] rfl rfl (fun i j h => by simp at h) i j h
theorem den_upd {f : Fill} {i : Nat} {v : Value} {x : SV} (h : x.ref ≠ some i) : den (f.upd i v) x = den f x := by
  cases x with
  | c v => rfl
  | q j off => simp only [den, Fill.upd]; rw [if_neg (fun e => h (by rw [SV.ref, e]))]
  | sl j off n m => simp only [den, Fill.upd]; rw [if_neg (fun e => h (by rw [SV.ref, e]))]
  | r j => simp only [den, Fill.upd]; rw [if_neg (fun e => h (by rw [SV.ref, e]))]
theorem ok_upd {f : Fill} {i : Nat} {v v' : Value} {c : CL} (h : c.ref ≠ some i) : c.ok (f.upd i v) v' ↔ c.ok f v' := by
  cases c with
  | v x => simp only [CL.ok]; rw [den_upd (fun e => h (by rw [CL.ref, e]))]
  | soft S => exact Iff.rfl
  | new => exact Iff.rfl
  | mk n => exact Iff.rfl
theorem wf_ref {l : List Oper} {sy : List Sy} (h : wfB l sy = true) {i j : Nat} {s : Sy} (hs : sy[i]? = some s) (hr : s.cl.ref = some j) : Ahead l i j := by
  have h1 := List.all_eq_true.1 h i (List.mem_range.2 (List.getElem?_eq_some_iff.1 hs).1)
  rw [hs] at h1
  simp only [Option.bind_some, hr] at h1
  exact anc_is h1
section
variable {P : Program} {Q : Exit → Act → World → Prop} {T : Nat → Prop} {w : World} {l : List Oper} {old : List (Nat × OP)} {sy : List Sy} {pt : List Put} {a : Act}
/-- One operation comes up. -/
theorem SJ.upd {f : Fill} {u u' : World} (hwf : wfB l sy = true) (h : SJ T w old sy pt f u) (hc : Closed l f) {i : Nat} (hi : f i = none) (hu : ∀ j, waitsOn l i j = true → (f j).isSome = true) {s : Sy} (hs : sy[i]? = some s) {v : Value} (hv : s.cl.ok f v)
    (hm : Holds T w u' (holdAt old (sy.map Sy.sp) pt (f.upd i v))) : SJ T w old sy pt (f.upd i v) u' := by
  refine ⟨fun k v' hk => ?_, hm⟩
  by_cases e : k = i
  · subst e
    simp only [Fill.upd, if_pos, Option.some.injEq] at hk
    subst hk
    refine ⟨s, hs, (ok_upd (fun hr => ?_)).2 hv⟩
    have := (wf_ref hwf hs hr).up hc hu
    rw [hi] at this
    cases this
  · simp only [Fill.upd] at hk
    rw [if_neg e] at hk
    obtain ⟨s', hs', hv'⟩ := h.val k v' hk
    refine ⟨s', hs', (ok_upd (fun hr => ?_)).2 hv'⟩
    have := (wf_ref hwf hs' hr).some hc (by rw [hk]; rfl)
    rw [hi] at this
    cases this
/-! ### What an operation reads -/
def dstIx (l : List Oper) (s : Tmp) : Option Nat := l.findIdx? fun o => o.dst == some s
def sev (l : List Oper) (sy : List Sy) (a : Act) (f : Fill) : Operand → Value
  | .tmp s => match dstIx l s with
    | some j => match sy[j]? with
      | some y => den f (y.cl.sv j)
      | none => undef
    | none => a.tmps.getD s undef
  | x => a.eval x
def readB (l : List Oper) (i : Nat) (x : Operand) : Bool := match x with
  | .tmp s => match dstIx l s with
    | some j => ((anc l).getD i 0).testBit j
    | none => true
  | _ => true
theorem sev_is {f : Fill} {b : Act} {u : World} (h : SJ T w old sy pt f u) (hc : Closed l f) {i : Nat} (hu : ∀ j, waitsOn l i j = true → (f j).isSome = true) (hs : Sees l f a b) {x : Operand} (hx : readB l i x = true) : b.eval x = sev l sy a f x := by
  cases x with
  | tmp s =>
    simp only [readB] at hx
    simp only [sev]
    cases hd : dstIx l s with
    | none =>
      rw [hd] at hx
      simp only
      refine hs.old s ?_
      rw [List.all_eq_true]
      intro o ho
      have := List.findIdx?_eq_none_iff.1 hd o ho
      simpa using this
    | some j =>
      rw [hd] at hx
      simp only at hx ⊢
      obtain ⟨v, hv⟩ := sE ((anc_is hx).up hc hu)
      obtain ⟨s', hs', hok⟩ := h.val j v hv
      rw [hs']
      simp only
      obtain ⟨hlt, h1, -⟩ := List.findIdx?_eq_some_iff_getElem.1 hd
      have e : b.eval (.tmp s) = v := hs.val j s (by rw [List.getElem?_eq_getElem hlt]; simpa using h1) hv
      rw [e]
      cases hcl : s'.cl with
      | v y => rw [hcl] at hok; exact hok
      | soft S => simp [CL.sv, den, hv]
      | new => rw [hcl] at hok; obtain ⟨g, rfl⟩ := hok; simp [CL.sv, den, hv, blkOf]
      | mk n => rw [hcl] at hok; obtain ⟨g, rfl⟩ := hok; simp [CL.sv, den, hv, blkOf]
  | const v => rfl
  | global g => rfl
  | func g => rfl
/-! ### Blocks -/
def adr (old : List (Nat × OP)) (f : Fill) (κ : Nat) : Nat := if κ < old.length then (old.getD κ (0, fun _ => False)).1 else blkOf (f (κ - old.length))
def bp (old : List (Nat × OP)) (sy : List Sy) (κ : Nat) : Option OP := if κ < old.length then (old[κ]?).map (·.2) else (sy[κ - old.length]?).bind (·.obj)
/-- What block κ holds when operation i comes up. -/
def cont (l : List Oper) (old : List (Nat × OP)) (sy : List Sy) (pt : List Put) (i κ : Nat) : Option OP := (bp old sy κ).bind fun p => knPut (fun k => if k = i then some false else know l i k) pt κ p
def liveB (l : List Oper) (old : List (Nat × OP)) (sy : List Sy) (i κ : Nat) : Bool := decide (κ < old.length) || (((anc l).getD i 0).testBit (κ - old.length) && ((sy[κ - old.length]?).map fun s => s.cl.isNew).getD false)
theorem hold_cont {f : Fill} {u : World} (h : SJ T w old sy pt f u) (hc : Closed l f) {i : Nat} (hi : f i = none) (hu : ∀ j, waitsOn l i j = true → (f j).isSome = true) {κ : Nat} {p : OP} (hp : cont l old sy pt i κ = some p) (hl : liveB l old sy i κ = true) :
    holdAt old (sy.map Sy.sp) pt f κ = some (adr old f κ, p) := by
  obtain ⟨p0, hb, hk⟩ := Option.bind_eq_some_iff.1 hp
  have hput : putOn pt f κ p0 = p := by
    refine knPut_is (fun k b hk => ?_) pt κ p0 p hk
    by_cases e : k = i
    · rw [if_pos e] at hk; cases hk; rw [e, hi]; rfl
    · rw [if_neg e] at hk; exact know_is hc hi hu hk
  simp only [liveB, Bool.or_eq_true, decide_eq_true_eq, Bool.and_eq_true] at hl
  unfold bp at hb
  unfold holdAt base adr
  by_cases hlt : κ < old.length
  · rw [if_pos hlt] at hb ⊢
    rw [if_pos hlt]
    rw [List.getElem?_eq_getElem hlt] at hb ⊢
    simp only [Option.map_some, Option.some.injEq] at hb ⊢
    rw [List.getD_eq_getElem?_getD, List.getElem?_eq_getElem hlt, Option.getD_some, hb, hput]
  · rw [if_neg hlt] at hb ⊢
    rw [if_neg hlt]
    obtain ⟨ha, hcl⟩ := hl.resolve_left hlt
    obtain ⟨s, hs, ho⟩ := Option.bind_eq_some_iff.1 hb
    obtain ⟨v, hv⟩ := sE ((anc_is ha).up hc hu)
    obtain ⟨s', hs', hok⟩ := h.val _ v hv
    rw [hs] at hs'
    cases hs'
    rw [hv, List.getElem?_map, hs]
    have hcl0 := hcl
    simp only [Option.map_some, Sy.sp, ho]
    cases hx : s.cl with
    | v x => simp [hs, hx, CL.isNew] at hcl0
    | soft S => simp [hs, hx, CL.isNew] at hcl0
    | new =>
      rw [hx] at hok
      obtain ⟨g, rfl⟩ := hok
      simp only [ptrObj, Option.map_some, blkOf, hput]
    | mk n =>
      rw [hx] at hok
      obtain ⟨g, rfl⟩ := hok
      simp only [ptrObj, Option.map_some, blkOf, hput]
/-! ### Steps -/
abbrev SyStep (P : Program) (Q : Exit → Act → World → Prop) (l : List Oper) (T : Nat → Prop) (w : World) (old : List (Nat × OP)) (sy : List Sy) (pt : List Put) (a : Act) (i : Nat) (o : Oper) : Prop := LinStepG P Q l (fun f u => SJ T w old sy pt f u) a i o
/-- No block is made or turned. -/
def quietB (sy : List Sy) (pt : List Put) (i : Nat) : Bool := (match (sy[i]?).map (·.obj) with | some none => true | _ => false) && noPut pt i
theorem hold_same {f : Fill} {i : Nat} (hi : f i = none) (hq : quietB sy pt i = true) (v : Value) : holdAt old (sy.map Sy.sp) pt (f.upd i v) = holdAt old (sy.map Sy.sp) pt f := by
  simp only [quietB, Bool.and_eq_true] at hq
  obtain ⟨h1, h2⟩ := hq
  cases hs : sy[i]? with
  | none => rw [hs] at h1; simp at h1
  | some s =>
    rw [hs] at h1
    have ho : s.obj = none := by
      cases hx : s.obj with
      | none => rfl
      | some p => rw [Option.map_some, hx] at h1; simp at h1
    exact holdAt_same (s := s.sp) (by rw [List.getElem?_map, hs]; rfl) (by simp [Sy.sp, ho]) hi h2
theorem wanted_none {o : Oper} {b : Act} (hg : o.guard = none) : Region.wanted o (yielded l.toArray b.tmps) = true := by simp [Region.wanted, hg]
/-- A value, whatever the operation: no memory turns. -/
theorem sy_val {i : Nat} {o : Oper} {s : Sy} (hwf : wfB l sy = true) (hg : o.guard = none) (hs : sy[i]? = some s) (hq : quietB sy pt i = true)
    (h : ∀ (f : Fill) (b : Act) (u : World), SJ T w old sy pt f u → Closed l f → f i = none → (∀ j, waitsOn l i j = true → (f j).isSome = true) → Sees l f a b → ∃ v, (execOp b.eval o).run P u = .ok (.value v) u ∧ s.cl.ok f v) : SyStep P Q l T w old sy pt a i o := by
  intro f b u K hJ hf hc hu hsee hK
  rw [if_pos (wanted_none hg)]
  obtain ⟨v, hrun, hok⟩ := h f b u hJ hc hf hu hsee
  unfold Oper.wp
  rw [hrun]
  refine hK v u (hJ.upd hwf hc hf hu hs hok ?_)
  rw [hold_same hf hq]
  exact hJ.mem
def easy : Op → Bool
  | .move _ | .assign _ | .fieldAddr _ _ _ | .indexAddr _ _ _ | .extract _ _ | .build _ _ | .binOp _ _ _ _ _ | .unOp _ _ _ | .convert _ _ _ | .slice _ _ _ _ _ | .index _ _ _ | .field _ _ _ => true
  | _ => false
theorem execOp_congr {ρ ρ' : Operand → Value} {o : Oper} (he : easy o.op = true) (h : ∀ x ∈ o.op.operands.toList, ρ x = ρ' x) : execOp ρ o = execOp ρ' o := by
  unfold execOp
  cases hop : o.op with
  | move x => rw [hop] at h; simp only [h x (by simp [Op.operands])]
  | assign x => rw [hop] at h; simp only [h x (by simp [Op.operands])]
  | fieldAddr t x n => rw [hop] at h; simp only [h x (by simp [Op.operands])]
  | indexAddr t x y => rw [hop] at h; simp only [h x (by simp [Op.operands]), h y (by simp [Op.operands])]
  | extract x n => rw [hop] at h; simp only [h x (by simp [Op.operands])]
  | binOp k t x y t2 => rw [hop] at h; simp only [h x (by simp [Op.operands]), h y (by simp [Op.operands])]
  | unOp k t x => rw [hop] at h; simp only [h x (by simp [Op.operands])]
  | convert t t2 x => rw [hop] at h; simp only [h x (by simp [Op.operands])]
  | index t x y => rw [hop] at h; simp only [h x (by simp [Op.operands]), h y (by simp [Op.operands])]
  | field t x n => rw [hop] at h; simp only [h x (by simp [Op.operands])]
  | build t ps =>
    rw [hop] at h
    have e : (ps.map fun (p : Nat × Operand) => (p.1, ρ p.2)) = ps.map fun (p : Nat × Operand) => (p.1, ρ' p.2) := by
      apply Array.map_congr_left
      intro p hp
      rw [h p.2 (by simp only [Op.operands]; exact List.mem_map.2 ⟨p, by simpa using hp, rfl⟩)]
    simp only [e]
  | slice t x lo hi mx =>
    rw [hop] at h
    have e1 : lo.map ρ = lo.map ρ' := by cases lo with | none => rfl | some y => simp only [Option.map_some, h y (by simp [Op.operands])]
    have e2 : hi.map ρ = hi.map ρ' := by cases hi with | none => rfl | some y => simp only [Option.map_some, h y (by simp [Op.operands])]
    have e3 : mx.map ρ = mx.map ρ' := by cases mx with | none => rfl | some y => simp only [Option.map_some, h y (by simp [Op.operands])]
    simp only [h x (by simp [Op.operands]), e1, e2, e3]
  | _ => simp [hop, easy] at he
theorem sy_pure {i : Nat} {o : Oper} {s : Sy} {x : SV} (hwf : wfB l sy = true) (hg : o.guard = none) (hs : sy[i]? = some s) (hq : quietB sy pt i = true) (hcl : s.cl = .v x) (he : (easy o.op && o.op.operands.toList.all (readB l i)) = true)
    (h : ∀ (f : Fill) (u : World), (execOp (sev l sy a f) o).run P u = .ok (.value (den f x)) u) : SyStep P Q l T w old sy pt a i o := by
  simp only [Bool.and_eq_true, List.all_eq_true] at he
  refine sy_val hwf hg hs hq fun f b u hJ hc hf hu hsee => ⟨den f x, ?_, by rw [hcl]; rfl⟩
  rw [execOp_congr he.1 (fun y hy => sev_is hJ hc hu hsee (he.2 y hy))]
  exact h f u
/-- A value of which a relation alone is known, out of another such. -/
theorem sy_soft {i j : Nat} {o : Oper} {s sj : Sy} {S S' : Value → Prop} (hwf : wfB l sy = true) (hg : o.guard = none) (hs : sy[i]? = some s) (hq : quietB sy pt i = true) (hcl : s.cl = .soft S) (he : (easy o.op && o.op.operands.toList.all (readB l i)) = true)
    (hj : ((anc l).getD i 0).testBit j = true) (hsj : sy[j]? = some sj) (hclj : sj.cl = .soft S')
    (h : ∀ (v : Value), S' v → ∃ v', (∀ (f : Fill) (u : World), f j = some v → (execOp (sev l sy a f) o).run P u = .ok (.value v') u) ∧ S v') : SyStep P Q l T w old sy pt a i o := by
  simp only [Bool.and_eq_true, List.all_eq_true] at he
  refine sy_val hwf hg hs hq fun f b u hJ hc hf hu hsee => ?_
  obtain ⟨v, hv⟩ := sE ((anc_is hj).up hc hu)
  obtain ⟨s', hs', hok⟩ := hJ.val j v hv
  rw [hsj] at hs'
  cases hs'
  rw [hclj] at hok
  obtain ⟨v', hrun, hS⟩ := h v hok
  refine ⟨v', ?_, by rw [hcl]; exact hS⟩
  rw [execOp_congr he.1 (fun y hy => sev_is hJ hc hu hsee (he.2 y hy))]
  exact hrun f u hv
/-- A call of which nothing in memory turns but what is new. -/
theorem sy_callJ {i : Nat} {o : Oper} {s : Sy} (F : FuncId) (xs : List Operand) (ts : Array TypeId) (hwf : wfB l sy = true) (hg : o.guard = none) (hs : sy[i]? = some s) (hq : quietB sy pt i = true)
    (ho : o.op = .call { callee := .value (.func F), args := xs.toArray, argTypes := ts }) (hr : xs.all (readB l i) = true) (hF : ∀ (args : Array Value) (u : World), (callFunc F args).run P u = .ok (.enter F args) u)
    (h : ∀ (f : Fill) (u : World), SJ T w old sy pt f u → (∀ j, ((anc l).getD i 0).testBit j = true → ∃ v s', f j = some v ∧ sy[j]? = some s' ∧ s'.cl.ok f v) → Calls P F (xs.map (sev l sy a f)).toArray u (fun e w' => ∃ v, e = .returned v ∧ s.cl.ok f v ∧ Below u.heap.size u w')) : SyStep P Q l T w old sy pt a i o := by
  intro f b u K hJ hf hc hu hsee hK
  have hv : xs.map b.eval = xs.map (sev l sy a f) := List.map_congr_left fun y hy => sev_is hJ hc hu hsee (List.all_eq_true.1 hr y hy)
  rw [if_pos (wanted_none hg)]
  have h0 := lin_call (P := P) (Q := Q) (ops := #[]) (o := o) (b := b) (u := u) (K := K) (E := True) hg F xs ts _ ho hv hF ?_
  · rwa [if_pos (by simp [Region.wanted, hg])] at h0
  · refine Calls.mono (h f u hJ fun j hj => ?_) ?_
    · obtain ⟨v, hv⟩ := sE ((anc_is hj).up hc hu)
      obtain ⟨s', hs', hok⟩ := hJ.val j v hv
      exact ⟨v, s', hv, hs', hok⟩
    · rintro e w' ⟨v, rfl, hok, hb⟩
      refine ⟨v, rfl, hK v w' (hJ.upd hwf hc hf hu hs hok ?_)⟩
      rw [hold_same hf hq]
      exact hJ.mem.below hb
theorem sy_call {i : Nat} {o : Oper} {s : Sy} {V : Value} (F : FuncId) (xs : List Operand) (vs : List Value) (ts : Array TypeId) (hwf : wfB l sy = true) (hg : o.guard = none) (hs : sy[i]? = some s) (hq : quietB sy pt i = true) (hcl : s.cl = .v (.c V))
    (ho : o.op = .call { callee := .value (.func F), args := xs.toArray, argTypes := ts }) (hr : xs.all (readB l i) = true) (hF : ∀ (args : Array Value) (u : World), (callFunc F args).run P u = .ok (.enter F args) u)
    (hv : ∀ f, xs.map (sev l sy a f) = vs) (h : ∀ u, Calls P F vs.toArray u (fun e w' => e = .returned V ∧ Below u.heap.size u w')) : SyStep P Q l T w old sy pt a i o :=
  sy_callJ F xs ts hwf hg hs hq ho hr hF fun f u _ _ => by
    rw [hv]
    refine (h u).mono ?_
    rintro e w' ⟨rfl, hb⟩
    exact ⟨V, rfl, by rw [hcl]; rfl, hb⟩
def allocB (l : List Oper) (old : List (Nat × OP)) (pt : List Put) (i : Nat) : Bool := noPut pt i && pt.all fun e => e.2.1 != old.length + i || ((anc l).getD e.1 0).testBit i
theorem sy_alloc {i : Nat} {o : Oper} {s : Sy} {p : OP} {t : TypeId} {cs : Array Value} (hwf : wfB l sy = true) (hg : o.guard = none) (hs : sy[i]? = some s) (hcl : s.cl = .new) (hobj : s.obj = some p) (hB : allocB l old pt i = true)
    (ho : o.op = .alloc t) (hz : ∀ u, (zeroValue t).run P u = .ok (.agg cs) u) (hp : p (.cells cs t (0, 0))) : SyStep P Q l T w old sy pt a i o := by
  intro f b u K hJ hf hc hu hsee hK
  simp only [allocB, Bool.and_eq_true, List.all_eq_true, Bool.or_eq_true, bne_iff_ne] at hB
  have h0 := step_alloc_row (P := P) (Q := Q) (ops := #[]) (o := o) (a := b) (w := u) (K := K) (E := True) hg t ho cs (hz u) ?_
  · rw [if_pos (wanted_none hg)]
    rwa [if_pos (by simp [Region.wanted, hg])] at h0
  · refine hK _ _ (hJ.upd hwf hc hf hu hs (by rw [hcl]; exact ⟨_, rfl⟩) ?_)
    rw [holdAt_new (s := s.sp) (g := u.heap.size) (p := p) (by rw [List.getElem?_map, hs]; rfl) (by simp [Sy.sp, hobj, ptrObj]) hB.1 (fun e he e2 => ?_)]
    · exact hJ.mem.new _ ((Below.refl _ u).alloc (Nat.le_refl _) _) (Nat.le_refl _) (blk_new u _) hp
    · rcases hB.2 e he with h1 | h1
      · exact absurd e2 h1
      · exact (anc_is h1).down hc hf
theorem sy_load {i : Nat} {o : Oper} {s : Sy} {p : OP} {ty : TypeId} {x : Operand} {k : IntKind} {d : TypeDesc} (κ off n : Nat) (hwf : wfB l sy = true) (hg : o.guard = none) (hs : sy[i]? = some s) (hq : quietB sy pt i = true)
    (ho : o.op = .load ty x) (hr : readB l i x = true) (hl : liveB l old sy i κ = true) (hx : ∀ f, sev l sy a f x = .pointer (some ⟨adr old f κ, off, none⟩)) (hc' : cont l old sy pt i κ = some p)
    (hu' : P.underlying ty = some d) (hd : d.isRow = true) (hi : (P.info? ty).map (·.size) = some n)
    (h : ∀ (f : Fill) (o : Obj), p o → ∃ (cs : Array Value) (t : TypeId) (fr : Nat × Nat) (xs : List Int), o = .cells cs t fr ∧ xs.length = n ∧ (cs.toList.drop off).take xs.length = xs.map (Value.int k) ∧ s.cl.ok f (.agg (arr k xs))) : SyStep P Q l T w old sy pt a i o := by
  intro f b u K hJ hf hc hu hsee hK
  have hh := hold_cont hJ hc hf hu hc' hl
  obtain ⟨⟨ob, hob, hpo⟩, -⟩ := hJ.mem.mem κ _ _ hh
  obtain ⟨cs, t, fr, xs, rfl, hn, hpart, hok⟩ := h f ob hpo
  have h0 := step_load_part (P := P) (Q := Q) (ops := #[]) (o := o) (a := b) (w := u) (K := K) (E := True) hg ty x ho _ off cs t fr d hob ((sev_is hJ hc hu hsee hr).trans (hx f)) k xs hpart hu' hd (by rw [hn]; exact hi) ?_
  · rw [if_pos (wanted_none hg)]
    rwa [if_pos (by simp [Region.wanted, hg])] at h0
  · refine hK _ _ (hJ.upd hwf hc hf hu hs hok ?_)
    rw [hold_same hf hq]
    exact hJ.mem
theorem sy_store {i : Nat} {o : Oper} {s : Sy} {p q : OP} {ty t : TypeId} {x y : Operand} (κ n : Nat) (hwf : wfB l sy = true) (hg : o.guard = none) (hs : sy[i]? = some s) (hobj : s.obj = none) (hcl : s.cl = .soft fun _ => True)
    (ho : o.op = .store ty x y) (hr : (readB l i x && readB l i y) = true) (hl : liveB l old sy i κ = true) (hx : ∀ f, sev l sy a f x = .pointer (some ⟨adr old f κ, 0, none⟩)) (hc' : cont l old sy pt i κ = some p) (hpt : putChk (know l i) i κ pt = some q)
    (hb : ∀ o, p o → ∃ cs, o = .cells cs t (0, 0) ∧ cs.size = n) (hi : (P.info? ty).map (·.size) = some n)
    (hy : ∀ (f : Fill), (∀ j, ((anc l).getD i 0).testBit j = true → ∃ v s', f j = some v ∧ sy[j]? = some s' ∧ s'.cl.ok f v) → ∃ ds, sev l sy a f y = .agg ds ∧ ds.size = n ∧ ds.all (·.oneCell') = true ∧ q (.cells ds t (0, 0))) : SyStep P Q l T w old sy pt a i o := by
  intro f b u K hJ hf hc hu hsee hK
  simp only [Bool.and_eq_true] at hr
  have hh := hold_cont hJ hc hf hu hc' hl
  obtain ⟨⟨ob, hob, hpo⟩, -⟩ := hJ.mem.mem κ _ _ hh
  obtain ⟨cs, rfl, hn⟩ := hb ob hpo
  obtain ⟨ds, hds, hsz, hone, hq⟩ := hy f fun j hj => by
    obtain ⟨v, hv⟩ := sE ((anc_is hj).up hc hu)
    obtain ⟨s', hs', hok⟩ := hJ.val j v hv
    exact ⟨v, s', hv, hs', hok⟩
  have h0 := step_store_whole (P := P) (Q := Q) (ops := #[]) (o := o) (a := b) (w := u) (K := K) (E := True) hg ty x y ho _ cs ds t hob ((sev_is hJ hc hu hsee hr.1).trans (hx f)) ((sev_is hJ hc hu hsee hr.2).trans hds) (by rw [hsz, hn]) (by rw [hsz]; exact hi) hone ?_
  · rw [if_pos (wanted_none hg)]
    rwa [if_pos (by simp [Region.wanted, hg])] at h0
  · intro w' h1 h2 _
    refine hK _ _ (hJ.upd hwf hc hf hu hs (by rw [hcl]; trivial) ?_)
    rw [holdAt_put (s := s.sp) (kn := know l i) (fun k b hk => know_is hc hf hu hk) (by rw [List.getElem?_map, hs]; rfl) (by simp [Sy.sp, hobj]) hf hpt hh]
    exact hJ.mem.put κ hh h2 h1 hq
/-! ### The whole region -/
def den' (g : Nat → Nat) (x : Nat → Value) : SV → Value
  | .c v => v
  | .q j off => .pointer (some ⟨g j, off, none⟩)
  | .sl j off n m => .slice (some ⟨g j, off, none⟩) n m
  | .r j => x j
def Sy.at (g : Nat → Nat) (x : Nat → Value) (k : Nat) (s : Sy) : Value := match s.cl with
  | .v y => den' g x y
  | .soft _ => x k
  | .new => .pointer (some ⟨g k, 0, none⟩)
  | .mk n => .slice (some ⟨g k, 0, none⟩) n n
def lay (g : Nat → Nat) (x : Nat → Value) : List Oper → List Sy → Nat → Act → Act
  | o :: l, s :: sy, k, a => lay g x l sy (k + 1) (a.put o.dst (s.at g x k))
  | _, _, _, a => a
def endPut (pt : List Put) (κ : Nat) (p : OP) : OP := pt.foldl (fun p e => if e.2.1 = κ then e.2.2 else p) p
def endAt (old : List (Nat × OP)) (sy : List Sy) (pt : List Put) (g : Nat → Nat) (κ : Nat) : Option (Nat × OP) :=
  if κ < old.length then (old[κ]?).map fun e => (e.1, endPut pt κ e.2) else ((sy[κ - old.length]?).bind (·.obj)).map fun p => (g (κ - old.length), endPut pt κ p)
def endB (l : List Oper) (sy : List Sy) (pt : List Put) : Bool := sy.length == l.length && (sy.all fun s => s.obj.isNone || s.cl.isNew) && pt.all fun e => decide (e.1 < l.length)
theorem lay_is {g : Nat → Nat} {x : Nat → Value} {f : Fill} : ∀ (l : List Oper) (sy : List Sy) (k : Nat) (a : Act), sy.length = l.length → (∀ i s, sy[i]? = some s → f (k + i) = some (s.at g x (k + i))) → laid l k f a = lay g x l sy k a
  | [], [], _, _, _, _ => rfl
  | [], _ :: _, _, _, h, _ => by simp at h
  | _ :: _, [], _, _, h, _ => by simp at h
  | o :: l, s :: sy, k, a, h, hf => by
    have h0 := hf 0 s rfl
    simp only [Nat.add_zero] at h0
    simp only [laid, lay, h0]
    exact lay_is l sy (k + 1) _ (by simpa using h) (fun i s' hs' => by rw [show k + 1 + i = k + (i + 1) by omega]; exact hf (i + 1) s' hs')
theorem den_den {f : Fill} {y : SV} : den f y = den' (fun j => blkOf (f j)) (fun j => (f j).getD undef) y := by cases y <;> rfl
theorem wp_region_sym {id : Nat} {u0 : World} (hm : P.follows .mixedOrders = true) (hB : (linB2 l a.tmps.size && backB l && endB l sy pt) = true) (hwf : wfB l sy = true)
    (h0 : Holds T w u0 fun κ => old[κ]?) (hs : wfB l sy = true → LinAllG P Q l (fun f u => SJ T w old sy pt f u) a l 0)
    (hend : ∀ (g : Nat → Nat) (x : Nat → Value) (u : World), (∀ (k : Nat) (s : Sy) (S : Value → Prop), sy[k]? = some s → s.cl = .soft S → S (x k)) → Holds T w u (endAt old sy pt g) → Q .normal (lay g x l sy 0 a) u) : (Code.region id l.toArray true).wp P Q a u0 := by
  rw [Bool.and_eq_true] at hB
  simp only [endB, Bool.and_eq_true, beq_iff_eq, List.all_eq_true, decide_eq_true_eq] at hB
  obtain ⟨hB1, ⟨hlen, hobj⟩, hpt⟩ := hB
  refine wp_region_ling (fun f u => SJ T w old sy pt f u) hm (by rw [hB1.1, hB1.2]; rfl) ⟨fun i v h => by simp at h, ?_⟩ (hs hwf) fun f u hall hJ => ?_
  · have e : holdAt old (sy.map Sy.sp) pt (fun _ => none) = fun κ => old[κ]? := by
      have hn : ∀ κ p, putOn pt (fun _ => none) κ p = p := by
        intro κ
        clear hpt hs hend
        induction pt with
        | nil => intro p; rfl
        | cons e r ih =>
          intro p
          show putOn r (fun _ => none) κ (if e.2.1 = κ ∧ (none : Option Value).isSome = true then e.2.2 else p) = p
          rw [if_neg (by simp)]
          exact ih p
      funext κ
      unfold holdAt base
      by_cases hlt : κ < old.length
      · rw [if_pos hlt]
        simp only [hn]
        cases old[κ]? <;> rfl
      · rw [if_neg hlt, List.getElem?_eq_none (by omega : old.length ≤ κ)]
        split <;> simp_all
    rw [e]
    exact h0.drew
  · have hcl : ∀ k s, sy[k]? = some s → ∃ v, f k = some v ∧ s.cl.ok f v := by
      intro k s hk
      obtain ⟨v, hv⟩ := sE (hall k (by rw [← hlen]; exact (List.getElem?_eq_some_iff.1 hk).1))
      obtain ⟨s', hs', hok⟩ := hJ.val k v hv
      rw [hk] at hs'
      cases hs'
      exact ⟨v, hv, hok⟩
    rw [lay_is (g := fun j => blkOf (f j)) (x := fun j => (f j).getD undef) l sy 0 a hlen fun i s hi => ?_]
    · refine hend _ _ _ (fun k s S hk hc => ?_) ?_
      · obtain ⟨v, hv, hok⟩ := hcl k s hk
        rw [hc] at hok
        simp only [hv, Option.getD_some]
        exact hok
      · have e : holdAt old (sy.map Sy.sp) pt f = endAt old sy pt (fun j => blkOf (f j)) := by
          have hp : ∀ κ p, putOn pt f κ p = endPut pt κ p := by
            intro κ
            unfold putOn endPut
            clear hJ hs hend
            induction pt with
            | nil => intro p; rfl
            | cons e r ih =>
              intro p
              simp only [List.foldl_cons]
              have := hall e.1 (hpt e (List.mem_cons_self ..))
              have e1 : ∀ p, (if e.2.1 = κ ∧ (f e.1).isSome = true then e.2.2 else p) = if e.2.1 = κ then e.2.2 else p := by
                intro p
                by_cases h1 : e.2.1 = κ
                · rw [if_pos ⟨h1, this⟩, if_pos h1]
                · rw [if_neg (fun h => h1 h.1), if_neg h1]
              rw [e1]
              exact ih (fun x hx => hpt x (List.mem_cons_of_mem _ hx)) _
          funext κ
          unfold holdAt base endAt
          by_cases hlt : κ < old.length
          · rw [if_pos hlt, if_pos hlt]
            simp only [hp]
          · rw [if_neg hlt, if_neg hlt, List.getElem?_map]
            cases hk : sy[κ - old.length]? with
            | none => rfl
            | some s =>
              obtain ⟨v, hv, hok⟩ := hcl _ _ hk
              simp only [Option.map_some, hv, Option.bind_some, Sy.sp]
              cases ho : s.obj with
              | none => rfl
              | some p =>
                have h1 := hobj s (List.mem_of_getElem? hk)
                rw [ho] at h1
                simp only [Option.isNone_some, Bool.false_or] at h1
                cases hx : s.cl with
                | v y => simp [hx, CL.isNew] at h1
                | soft S => simp [hx, CL.isNew] at h1
                | new =>
                  rw [hx] at hok
                  obtain ⟨g, rfl⟩ := hok
                  simp only [ptrObj, Option.map_some, blkOf, hp]
                | mk n =>
                  rw [hx] at hok
                  obtain ⟨g, rfl⟩ := hok
                  simp only [ptrObj, Option.map_some, blkOf, hp]
        rw [← e]
        exact hJ.mem
    · rw [Nat.zero_add]
      obtain ⟨v, hv, hok⟩ := hcl i s hi
      rw [hv]
      unfold Sy.at
      cases hx : s.cl with
      | v y => rw [hx] at hok; simp only; rw [← den_den]; exact congrArg some hok
      | soft S => simp [hv]
      | new => rw [hx] at hok; obtain ⟨g, rfl⟩ := hok; simp [hv, blkOf]
      | mk n => rw [hx] at hok; obtain ⟨g, rfl⟩ := hok; simp [hv, blkOf]
end
/-! ### Short words -/
abbrev cel (cs : Array Value) (t : TypeId) : OP := fun o => o = .cells cs t (0, 0)
abbrev sv (v : Value) : Sy := ⟨.v (.c v), none⟩
abbrev sa (k : IntKind) (xs : List Int) : Sy := ⟨.v (.c (.agg (arr k xs))), none⟩
abbrev sp (g off : Nat) : Sy := ⟨.v (.c (.pointer (some ⟨g, off, none⟩))), none⟩
abbrev sq (j off : Nat) : Sy := ⟨.v (.q j off), none⟩
abbrev sn (cs : Array Value) (t : TypeId) : Sy := ⟨.new, some (cel cs t)⟩
abbrev s0 : Sy := ⟨.soft fun _ => True, none⟩
def oldOf (L : List (Nat × Array Value × TypeId)) : List (Nat × OP) := L.map fun e => (e.1, cel e.2.1 e.2.2)
theorem Blk.holds {w u : World} {L : List (Nat × Array Value × TypeId)} (h : Blk w u L) : Holds (fun _ => False) w u fun κ => (oldOf L)[κ]? := by
  have hx : ∀ (i g : Nat) (p : OP), (oldOf L)[i]? = some (g, p) → ∃ c t, L[i]? = some (g, c, t) ∧ p = cel c t := by
    intro i g p hi
    simp only [oldOf, List.getElem?_map, Option.map_eq_some_iff, Prod.mk.injEq] at hi
    obtain ⟨⟨g', c, t⟩, h1, rfl, rfl⟩ := hi
    exact ⟨c, t, h1, rfl⟩
  refine ⟨fun i g p hi => ?_, fun i j g p q hi hj => ?_, Kept.of_below h.below⟩
  · obtain ⟨c, t, h1, rfl⟩ := hx i g p hi
    obtain ⟨h2, h3⟩ := h.mem i g c t h1
    exact ⟨⟨_, h2, rfl⟩, .inr h3⟩
  · obtain ⟨c, t, h1, rfl⟩ := hx i g p hi
    obtain ⟨c', t', h2, rfl⟩ := hx j g q hj
    exact h.inj i j g c t c' t' h1 h2
theorem Holds.blk {w u : World} {L : Nat → Option (Nat × OP)} (h : Holds (fun _ => False) w u L) (ks : List Nat) (l : List (Nat × Array Value × TypeId)) (hd : ks.Nodup) (hl : ks.map L = l.map fun e => some (e.1, cel e.2.1 e.2.2)) : Blk w u l := by
  have hlen : ks.length = l.length := by have := congrArg List.length hl; simpa using this
  have hx : ∀ (i g : Nat) (c : Array Value) (t : TypeId), l[i]? = some (g, c, t) → ∃ κ, ks[i]? = some κ ∧ L κ = some (g, cel c t) := by
    intro i g c t hi
    have h1 : (ks.map L)[i]? = some (some (g, cel c t)) := by rw [hl, List.getElem?_map, hi]; rfl
    rw [List.getElem?_map] at h1
    obtain ⟨κ, h2, h3⟩ := Option.map_eq_some_iff.1 h1
    exact ⟨κ, h2, h3⟩
  refine ⟨fun i g c t hi => ?_, fun i j g c t c' t' hi hj => ?_, h.keep.toBelow (Nat.le_refl _) (fun _ e => e.elim)⟩
  · obtain ⟨κ, _, h2⟩ := hx i g c t hi
    obtain ⟨⟨o, ho, rfl⟩, hT⟩ := h.mem κ g _ h2
    exact ⟨ho, hT.resolve_left id⟩
  · obtain ⟨κ, h1, h2⟩ := hx i g c t hi
    obtain ⟨κ', h3, h4⟩ := hx j g c' t' hj
    have e := h.inj κ κ' g _ _ h2 h4
    subst e
    obtain ⟨i1, i2⟩ := List.getElem?_eq_some_iff.1 h1
    obtain ⟨j1, j2⟩ := List.getElem?_eq_some_iff.1 h3
    exact (List.getElem_inj (h₀ := i1) (h₁ := j1) hd).1 (i2.trans j2.symm)
/-- A type of n integers in a row. -/
structure RowT (P : Program) (ty : TypeId) (n : Nat) : Prop where
  d : ∃ d, P.underlying ty = some d ∧ d.isRow = true
  i : (P.info? ty).map (·.size) = some n
section
variable {P : Program} {Q : Exit → Act → World → Prop} {T : Nat → Prop} {w : World} {l : List Oper} {old : List (Nat × OP)} {sy : List Sy} {pt : List Put} {a : Act} {r : List Oper} {i : Nat} {o : Oper}
abbrev SyAll (P : Program) (Q : Exit → Act → World → Prop) (l : List Oper) (T : Nat → Prop) (w : World) (old : List (Nat × OP)) (sy : List Sy) (pt : List Put) (a : Act) (r : List Oper) (i : Nat) : Prop := LinAllG P Q l (fun f u => SJ T w old sy pt f u) a r i
theorem yn : SyAll P Q l T w old sy pt a [] i := trivial
/-- A value that is reckoned. -/
theorem yp (hW : wfB l sy = true) (hr : SyAll P Q l T w old sy pt a r (i + 1)) {x : SV} (hg : o.guard = none := by rfl) (hs : sy[i]? = some ⟨.v x, none⟩ := by rfl) (hq : quietB sy pt i = true := by kernel_rfl) (he : (easy o.op && o.op.operands.toList.all (readB l i)) = true := by kernel_rfl)
    (h : ∀ (f : Fill) (u : World), (execOp (sev l sy a f) o).run P u = .ok (.value (den f x)) u := by intro f u; first | rfl | kernel_rfl) : SyAll P Q l T w old sy pt a (o :: r) i :=
  .cons (sy_pure hW hg hs hq rfl he h) hr
/-- The same, its run given. -/
theorem yb (hW : wfB l sy = true) (hr : SyAll P Q l T w old sy pt a r (i + 1)) {v : Value} (t : TypeId) (ps : Array (Nat × Operand)) (vs : List (Nat × Value)) (hrun : ∀ u, (Instr.build t vs.toArray).run P u = .ok v u) (ho : o.op = .build t ps := by rfl) (hg : o.guard = none := by rfl) (hs : sy[i]? = some (sv v) := by rfl) (hq : quietB sy pt i = true := by kernel_rfl) (he : (easy o.op && o.op.operands.toList.all (readB l i)) = true := by kernel_rfl)
    (hv : ∀ f, ps.toList.map (fun p => (p.1, sev l sy a f p.2)) = vs := by intro f; first | rfl | kernel_rfl) : SyAll P Q l T w old sy pt a (o :: r) i :=
  .cons (sy_pure hW hg hs hq rfl he fun f u => exec_build_l t ps ho vs.toArray (by rw [hv f]) v (hrun u)) hr
/-- A load of a row. -/
theorem yl (hW : wfB l sy = true) (hr : SyAll P Q l T w old sy pt a r (i + 1)) {ty : TypeId} {x : Operand} {k : IntKind} {xs : List Int} {n : Nat} (κ off : Nat) (cs : Array Value) (t : TypeId) (hR : RowT P ty n) (hn : xs.length = n) (hp : (cs.toList.drop off).take xs.length = xs.map (Value.int k))
    (ho : o.op = .load ty x := by rfl) (hg : o.guard = none := by rfl) (hs : sy[i]? = some (sa k xs) := by rfl) (hq : quietB sy pt i = true := by kernel_rfl) (hrd : readB l i x = true := by kernel_rfl) (hl : liveB l old sy i κ = true := by kernel_rfl)
    (hx : ∀ f, sev l sy a f x = .pointer (some ⟨adr old f κ, off, none⟩) := by intro f; first | rfl | kernel_rfl) (hc : cont l old sy pt i κ = some (cel cs t) := by kernel_rfl) : SyAll P Q l T w old sy pt a (o :: r) i := by
  obtain ⟨d, hd1, hd2⟩ := hR.d
  exact .cons (sy_load κ off n hW hg hs hq ho hrd hl hx hc hd1 hd2 hR.i fun f ob h => ⟨cs, t, (0, 0), xs, h, hn, hp, rfl⟩) hr
/-- A variable of its own. -/
theorem ya (hW : wfB l sy = true) (hr : SyAll P Q l T w old sy pt a r (i + 1)) {t : TypeId} {cs : Array Value} (hz : ∀ u, (zeroValue t).run P u = .ok (.agg cs) u) (ho : o.op = .alloc t := by rfl) (hg : o.guard = none := by rfl) (hs : sy[i]? = some (sn cs t) := by rfl) (hB : allocB l old pt i = true := by kernel_rfl) : SyAll P Q l T w old sy pt a (o :: r) i :=
  .cons (sy_alloc hW hg hs rfl rfl hB ho hz rfl) hr
/-- A store of a row over a whole block. -/
theorem ys (hW : wfB l sy = true) (hr : SyAll P Q l T w old sy pt a r (i + 1)) {ty : TypeId} {x y : Operand} {k : IntKind} {xs : List Int} {n : Nat} (κ : Nat) (cs : Array Value) (t : TypeId) (hR : RowT P ty n) (hn : xs.length = n) (hcs : cs.size = n)
    (hpt : putChk (know l i) i κ pt = some (cel (arr k xs) t) := by kernel_rfl) (ho : o.op = .store ty x y := by rfl) (hg : o.guard = none := by rfl) (hs : sy[i]? = some s0 := by rfl) (hrd : (readB l i x && readB l i y) = true := by kernel_rfl) (hl : liveB l old sy i κ = true := by kernel_rfl)
    (hx : ∀ f, sev l sy a f x = .pointer (some ⟨adr old f κ, 0, none⟩) := by intro f; first | rfl | kernel_rfl) (hy : ∀ f, sev l sy a f y = .agg (arr k xs) := by intro f; first | rfl | kernel_rfl) (hc : cont l old sy pt i κ = some (cel cs t) := by kernel_rfl) : SyAll P Q l T w old sy pt a (o :: r) i :=
  .cons (sy_store κ n hW hg hs rfl rfl ho hrd hl hx hc hpt (fun ob h => ⟨cs, h, hcs⟩) hR.i fun f _ => ⟨arr k xs, hy f, by rw [arr_size, hn], all_arr _ _, rfl⟩) hr
/-- A call that answers a row. -/
theorem yc (hW : wfB l sy = true) (hr : SyAll P Q l T w old sy pt a r (i + 1)) {F : FuncId} {xs : List Operand} {ts : Array TypeId} {vs : List Value} {k : IntKind} {z : List Int} {R : List Int → Prop} (h : ∀ u, Calls P F vs.toArray u fun e w' => ∃ zs, e = .returned (.agg (arr k zs)) ∧ R zs ∧ Below u.heap.size u w') (he : ∀ y, R y → y = z)
    (ho : o.op = .call { callee := .value (.func F), args := xs.toArray, argTypes := ts } := by rfl) (hg : o.guard = none := by rfl) (hs : sy[i]? = some (sa k z) := by rfl) (hq : quietB sy pt i = true := by kernel_rfl) (hrd : xs.all (readB l i) = true := by kernel_rfl)
    (hF : ∀ (args : Array Value) (u : World), (callFunc F args).run P u = .ok (.enter F args) u := by intro args u; kernel_rfl) (hv : ∀ f, xs.map (sev l sy a f) = vs := by intro f; first | rfl | kernel_rfl) : SyAll P Q l T w old sy pt a (o :: r) i :=
  .cons (sy_call F xs vs ts hW hg hs hq rfl ho hrd hF hv fun u => by
    refine (h u).mono ?_
    rintro e w' ⟨zs, rfl, hR, hb⟩
    exact ⟨by rw [he zs hR], hb⟩) hr
end
end Go.Proofs.YtogebegdgfdijaaDoor
