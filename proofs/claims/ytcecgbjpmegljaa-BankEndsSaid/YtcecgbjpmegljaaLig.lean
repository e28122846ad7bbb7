/- A region that draws its order, with guards: walked once an operation (as XLin, where an operation may be wanted or not). Over any program; no condition. -/
import Derived.Test.YtcecgbjpmegljaaLio
namespace Go.Proofs.Ytcecgbjpmegljaa
open Go.RowKit
def linB2 (l : List Oper) (n : Nat) : Bool := l.all (fun o => match o.dst with | some s => decide (s < n) | none => true) && distinctD l
section
variable {P : Program} {Q : Exit → Act → World → Prop}
/-- What is to be shown of operation number i. -/
def LinStepG (P : Program) (Q : Exit → Act → World → Prop) (l : List Oper) (J : Fill → World → Prop) (a : Act) (i : Nat) (o : Oper) : Prop :=
  ∀ (f : Fill) (b : Act) (u : World) (K : Act → World → Prop), J f u → f i = none → Closed l f → (∀ j, waitsOn l i j = true → (f j).isSome = true) → Sees l f a b →
    (∀ v u', J (f.upd i v) u' → K (b.put o.dst v) u') → if Region.wanted o (yielded l.toArray b.tmps) = true then Oper.wp P o b u K Q else K (b.put o.dst undef) u
def LinAllG (P : Program) (Q : Exit → Act → World → Prop) (l : List Oper) (J : Fill → World → Prop) (a : Act) : List Oper → Nat → Prop
  | [], _ => True
  | o :: r, k => LinStepG P Q l J a k o ∧ LinAllG P Q l J a r (k + 1)
theorem LinAllG.nil {l : List Oper} {J : Fill → World → Prop} {a : Act} {k : Nat} : LinAllG P Q l J a [] k := trivial
theorem LinAllG.cons {l : List Oper} {J : Fill → World → Prop} {a : Act} {o : Oper} {r : List Oper} {k : Nat} (h : LinStepG P Q l J a k o) (hr : LinAllG P Q l J a r (k + 1)) : LinAllG P Q l J a (o :: r) k := ⟨h, hr⟩
theorem LinAllG.at {l : List Oper} {J : Fill → World → Prop} {a : Act} : ∀ {r : List Oper} {k : Nat}, LinAllG P Q l J a r k → ∀ i o, r[i]? = some o → LinStepG P Q l J a (k + i) o
  | [], _, _, _, _, h => by simp at h
  | o :: r, k, h, 0, o', ho => by
    simp only [List.getElem?_cons_zero, Option.some.injEq] at ho
    subst ho
    exact h.1
  | o :: r, k, h, i + 1, o', ho => by
    simp only [List.getElem?_cons_succ] at ho
    rw [show k + (i + 1) = k + 1 + i by omega]
    exact LinAllG.at h.2 i o' ho

theorem wp_region_ling {id : Nat} {a : Act} {w : World} {l : List Oper} (J : Fill → World → Prop) (hm : P.follows .mixedOrders = true) (hB : (linB2 l a.tmps.size && backB l) = true)
    (h0 : J (fun _ => none) w.drew) (hs : LinAllG P Q l J a l 0)
    (hend : ∀ f u, (∀ i, i < l.length → (f i).isSome = true) → J f u → Q .normal (laid l 0 f a) u) : (Code.region id l.toArray true).wp P Q a w := by
  refine wp_region_any hm ?_
  simp only [linB2, Bool.and_eq_true, List.all_eq_true] at hB
  obtain ⟨⟨hg, hd⟩, hbk⟩ := hB
  have hback : ∀ i o, l[i]? = some o → ∀ e ∈ o.after, Region.binds .any e = true → e.on < i := by
    intro i o ho e he hb
    have hlt : i < l.length := (List.getElem?_eq_some_iff.1 ho).1
    have h1 := List.all_eq_true.1 hbk i (List.mem_range.2 hlt)
    rw [ho] at h1
    have h2 := Array.all_eq_true_iff_forall_mem.1 h1 e he
    simpa [hb] using h2
  have main : ∀ (fuel : Nat) (listed : Array Bool) (f : Fill) (u : World), listed.size = l.length → (∀ i, i < l.length → listed.getD i false = (f i).isSome) → Closed l f → J f u →
      unl l.length f ≤ fuel → wpAny P .any l.toArray Q fuel listed (laid l 0 f a) u := by
    intro fuel
    have lt_of : ∀ {j : Nat} {o : Oper}, l.toArray[j]? = some o → j < l.length ∧ l[j]? = some o := by
      intro j o h
      have h2 : l[j]? = some o := by simpa using h
      exact ⟨(List.getElem?_eq_some_iff.1 h2).1, h2⟩
    have getT : ∀ (listed : Array Bool) (j : Nat), listed.size = l.length → j < l.length → listed.getD j true = listed.getD j false := by
      intro listed j h1 h2
      simp [h1, h2]
    have endd : ∀ (listed : Array Bool) (f : Fill) (u : World), listed.size = l.length → (∀ i, i < l.length → listed.getD i false = (f i).isSome) → J f u → Region.ready .any l.toArray listed = [] → Q .normal (laid l 0 f a) u := by
      intro listed f u hls hlf hJ hr
      refine hend f u (fun i => ?_) hJ
      induction i using Nat.strongRecOn with
      | _ i ih =>
        intro hi
        cases hf : f i with
        | some v => rfl
        | none =>
          exfalso
          have hm : i ∈ Region.ready .any l.toArray listed := by
            refine mem_ready.2 ⟨?_, l[i], by simp [hi], fun e he hb => ?_⟩
            · rw [getT _ _ hls hi, hlf i hi, hf]; rfl
            · have h1 := hback i l[i] (List.getElem?_eq_getElem hi) e he hb
              rw [hlf _ (by omega)]
              exact ih e.on h1 (by omega)
          rw [hr] at hm
          cases hm
    induction fuel with
    | zero =>
      intro listed f u hls hlf hcl hJ hun
      have hall := unl_zero l.length f (by omega)
      have hr : Region.ready .any l.toArray listed = [] := by
        apply List.eq_nil_iff_forall_not_mem.2
        intro j hj
        obtain ⟨h1, o, ho, _⟩ := mem_ready.1 hj
        have hlt := (lt_of ho).1
        rw [getT _ _ hls hlt, hlf j hlt, hall j hlt] at h1
        cases h1
      exact ⟨hr, endd listed f u hls hlf hJ hr⟩
    | succ fuel ih =>
      intro listed f u hls hlf hcl hJ hun
      refine ⟨endd listed f u hls hlf hJ, fun i hi => ?_⟩
      obtain ⟨hl, o, ho, hall⟩ := mem_ready.1 hi
      obtain ⟨hlt, ho'⟩ := lt_of ho
      have hfi : f i = none := by
        rw [getT _ _ hls hlt, hlf i hlt] at hl
        cases e : f i with
        | none => rfl
        | some v => rw [e] at hl; cases hl
      have hst := (by simpa using hs.at i o ho' : LinStepG P Q l J a i o)
      have hsees : Sees l f a (laid l 0 f a) := by
        refine ⟨fun j oj s v hoj hsj hv => ?_, fun s hs => ?_⟩
        · refine laid_new l 0 f a j oj s v hd hoj hsj ?_ (by simpa using hv)
          have := hg oj (List.mem_of_getElem? hoj)
          rw [hsj] at this
          exact of_decide_eq_true this
        · refine laid_old l 0 f a s (fun o' ho' e => ?_)
          have := List.all_eq_true.1 hs o' ho'
          simp [e] at this
      have hup : ∀ j, waitsOn l i j = true → (f j).isSome = true := by
        intro j hw
        unfold waitsOn at hw
        rw [ho'] at hw
        obtain ⟨e, he, hb⟩ := Array.any_eq_true'.1 hw
        simp only [Bool.and_eq_true, beq_iff_eq] at hb
        have h1 := hall e he hb.1
        have h2 := hback i o ho' e he hb.1
        rw [hlf _ (by omega)] at h1
        rw [← hb.2]; exact h1
      have H := hst f (laid l 0 f a) u (fun b u' => wpAny P .any l.toArray Q fuel (listed.setIfInBounds i true) b u') hJ hfi hcl hup hsees (fun v u' hJ' => by
        rw [laid_upd l 0 f a i o v hd ho' (by simpa using hfi), Nat.zero_add]
        refine ih _ _ _ (by simpa using hls) (fun k hk => ?_) (fun k ok hok hks e he hb => ?_) hJ' ?_
        · by_cases e : k = i
          · subst e
            simp [Fill.upd, hls, hk]
          · rw [getD_set_ne false (Ne.symm e), hlf k hk]
            simp [Fill.upd, e]
        · by_cases e2 : e.on = i
          · simp [Fill.upd, e2]
          · have h3 : (f.upd i v e.on) = f e.on := by simp [Fill.upd, e2]
            rw [h3]
            by_cases e3 : k = i
            · subst e3
              rw [ho'] at hok
              cases hok
              have h1 := hall e he hb
              have h2 := hback k o ho' e he hb
              rwa [hlf _ (by omega)] at h1
            · have h4 : f.upd i v k = f k := by simp [Fill.upd, e3]
              rw [h4] at hks
              exact hcl k ok hok hks e he hb
        · have := unl_upd l.length f i v hlt hfi
          omega)
      unfold wpOp
      simp only [ho]
      split
      · rename_i hw
        rw [if_pos hw] at H
        exact .inl H
      · rename_i hw
        rw [if_neg hw] at H
        exact H
  have h := main l.length (Array.replicate l.length false) (fun _ => none) w.drew (by simp) (fun i hi => by simp [hi]) (fun i o _ h => by cases h) h0 (unl_le _ _)
  have e0 : laid l 0 (fun _ => none) a = a := by
    have : ∀ (l : List Oper) (k : Nat), laid l k (fun _ => none) a = a := by
      intro l
      induction l with
      | nil => intro k; rfl
      | cons o l ih => intro k; simp only [laid]; exact ih (k + 1)
    exact this l 0
  rw [e0] at h
  have e1 : l.toArray.size = l.length := by simp
  rw [e1]
  exact h
theorem wanted_of {l : List Oper} {o : Oper} {j s : Nat} {b : Act} (hg : o.guard = some (j, true)) (hd : (l[j]?).bind (·.dst) = some s) (hv : b.eval (.tmp s) = .bool true) : Region.wanted o (yielded l.toArray b.tmps) = true := by
  have h1 : b.tmps[s]? = some (.bool true) := by
    have h2 : b.tmps.getD s undef = .bool true := hv
    rw [Array.getD_eq_getD_getElem?] at h2
    cases h3 : b.tmps[s]? with
    | none => rw [h3] at h2; cases h2
    | some v => rw [h3] at h2; rw [show v = .bool true from h2]
  have h4 : yielded l.toArray b.tmps j = some true := by
    unfold yielded
    rw [show (l.toArray[j]?).bind (·.dst) = some s by simpa using hd]
    simp [h1]
  simp [Region.wanted, hg, h4]
theorem lin_callW {ops : Array Oper} {o : Oper} {b : Act} {u : World} {K : Act → World → Prop} {E : Prop} (hw : Region.wanted o (yielded ops b.tmps) = true) (F : FuncId) (xs : List Operand) (ts : Array TypeId) (vs : List Value)
    (ho : o.op = .call { callee := .value (.func F), args := xs.toArray, argTypes := ts }) (hv : xs.map b.eval = vs) (hF : ∀ (args : Array Value) (u : World), (callFunc F args).run P u = .ok (.enter F args) u)
    (h : Calls P F vs.toArray u (fun e w' => ∃ v, e = .returned v ∧ K (b.put o.dst v) w')) :
    if Region.wanted o (yielded ops b.tmps) = true then Oper.wp P o b u K Q else E := by
  rw [if_pos hw]
  have h0 := lin_call (P := P) (Q := Q) (ops := #[]) (o := { o with guard := none }) (b := b) (u := u) (K := K) (E := True) rfl F xs ts vs ho hv hF h
  rw [if_pos (by simp [Region.wanted])] at h0
  exact h0
theorem lin_pureW {ops : Array Oper} {o : Oper} {b : Act} {u : World} {K : Act → World → Prop} {E : Prop} (hw : Region.wanted o (yielded ops b.tmps) = true) (v : Value) (hrun : (execOp b.eval o).run P u = .ok (.value v) u) (h : K (b.put o.dst v) u) :
    if Region.wanted o (yielded ops b.tmps) = true then Oper.wp P o b u K Q else E := by
  rw [if_pos hw]
  unfold Oper.wp
  rw [hrun]
  exact h
/-- A guarded operation that is wanted is as one without a guard. -/
theorem lin_unguard {ops : Array Oper} {o : Oper} {b : Act} {u : World} {K : Act → World → Prop} {E : Prop} (hw : Region.wanted o (yielded ops b.tmps) = true)
    (h : if Region.wanted { o with guard := none } (yielded ops b.tmps) = true then Oper.wp P { o with guard := none } b u K Q else E) :
    if Region.wanted o (yielded ops b.tmps) = true then Oper.wp P o b u K Q else E := by
  rw [if_pos (show Region.wanted { o with guard := none } (yielded ops b.tmps) = true by simp [Region.wanted])] at h
  rw [if_pos hw]
  exact h
theorem exec_slice {o : Oper} {ev : Operand → Value} {w : World} (t : TypeId) (x : Operand) (lo hi : Option Operand) (ho : o.op = .slice t x lo hi none) (vx : Value) (vlo vhi : Option Value) (hx : ev x = vx) (hlo : lo.map ev = vlo) (hhi : hi.map ev = vhi) (v : Value)
    (hrun : (Instr.sliceAt t vx vlo vhi none).run P w = .ok v w) : (execOp ev o).run P w = .ok (.value v) w := by
  simp only [execOp, ho, hx, hlo, hhi, Option.map_none, Sem.run_bind, hrun, Result.andThen_ok]
  rfl
end
end Go.Proofs.Ytcecgbjpmegljaa
