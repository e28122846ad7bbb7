/- A region that draws its order, walked once an operation: what each operation finds and leaves is told by one predicate J over what has come up so far. Over any program; no condition. -/
import Derived.Test.YtcecgbjpmegljaaBsel
namespace Go.Proofs.Ytcecgbjpmegljaa
open Go.RowKit

/-- What the operations that have come up have left. -/
abbrev Fill := Nat → Option Value
def Fill.upd (f : Fill) (i : Nat) (v : Value) : Fill := fun j => if j = i then some v else f j
def laid : List Oper → Nat → Fill → Act → Act
  | [], _, _, a => a
  | o :: l, k, f, a => laid l (k + 1) f (match f k with | some v => a.put o.dst v | none => a)

def apartD (x y : Option Tmp) : Bool := match x, y with
  | some d, some e => d != e
  | _, _ => true
theorem apartD_spec {x y : Option Tmp} (h : apartD x y = true) : ∀ d, x = some d → y ≠ some d := by
  rintro d rfl rfl
  simp [apartD] at h
def distinctD : List Oper → Bool
  | [] => true
  | o :: l => l.all (fun o' => apartD o.dst o'.dst) && distinctD l
/-- No guard, and each operation writes a slot of its own that there is. -/
def linB (l : List Oper) (n : Nat) : Bool := l.all (fun o => o.guard.isNone && (match o.dst with | some s => decide (s < n) | none => true)) && distinctD l

theorem laid_congr : ∀ (l : List Oper) (k : Nat) (f g : Fill) (a : Act), (∀ i, k ≤ i → f i = g i) → laid l k f a = laid l k g a
  | [], _, _, _, _, _ => rfl
  | o :: l, k, f, g, a, h => by
    simp only [laid]
    rw [h k (Nat.le_refl _)]
    exact laid_congr l (k + 1) f g _ (fun i hi => h i (by omega))
theorem laid_put : ∀ (l : List Oper) (k : Nat) (f : Fill) (a : Act) (x : Option Tmp) (v : Value), (∀ o ∈ l, apartD x o.dst = true) → (laid l k f a).put x v = laid l k f (a.put x v)
  | [], _, _, _, _, _, _ => rfl
  | o :: l, k, f, a, x, v, h => by
    simp only [laid]
    rw [laid_put l (k + 1) f _ x v (fun o' ho' => h o' (List.mem_cons_of_mem _ ho'))]
    congr 1
    cases f k with
    | none => rfl
    | some u => exact (Act.put_comm a v u (apartD_spec (h o (List.mem_cons_self ..)))).symm
theorem laid_upd : ∀ (l : List Oper) (k : Nat) (f : Fill) (a : Act) (i : Nat) (o : Oper) (v : Value), distinctD l = true → l[i]? = some o → f (k + i) = none → (laid l k f a).put o.dst v = laid l k (f.upd (k + i) v) a
  | [], _, _, _, _, _, _, _, h, _ => by simp at h
  | o :: l, k, f, a, 0, o', v, hd, ho, hf => by
    simp only [distinctD, Bool.and_eq_true, List.all_eq_true] at hd
    simp only [List.getElem?_cons_zero, Option.some.injEq] at ho
    subst ho
    simp only [laid, Nat.add_zero] at hf ⊢
    rw [hf, laid_put l (k + 1) f a o.dst v hd.1]
    have e : f.upd k v k = some v := by simp [Fill.upd]
    simp only [e]
    exact laid_congr l (k + 1) f _ _ (fun i hi => by simp only [Fill.upd]; rw [if_neg (by omega)])
  | o :: l, k, f, a, i + 1, o', v, hd, ho, hf => by
    simp only [distinctD, Bool.and_eq_true] at hd
    simp only [List.getElem?_cons_succ] at ho
    simp only [laid]
    rw [laid_upd l (k + 1) f _ i o' v hd.2 ho (by rw [← hf]; congr 1; omega)]
    have e : f.upd (k + (i + 1)) v k = f k := by simp only [Fill.upd]; rw [if_neg (by omega)]
    rw [e, show k + 1 + i = k + (i + 1) by omega]
theorem put_get_ne (a : Act) (x : Option Tmp) (v : Value) (s : Tmp) (h : x ≠ some s) : (a.put x v).tmps.getD s undef = a.tmps.getD s undef := by
  cases x with
  | none => rfl
  | some d =>
    have : d ≠ s := fun e => h (by rw [e])
    simp [Act.put, Array.getElem?_setIfInBounds_ne this]
theorem put_size (a : Act) (x : Option Tmp) (v : Value) : (a.put x v).tmps.size = a.tmps.size := by
  cases x <;> simp [Act.put]
theorem laid_old : ∀ (l : List Oper) (k : Nat) (f : Fill) (a : Act) (s : Tmp), (∀ o ∈ l, o.dst ≠ some s) → (laid l k f a).tmps.getD s undef = a.tmps.getD s undef
  | [], _, _, _, _, _ => rfl
  | o :: l, k, f, a, s, h => by
    simp only [laid]
    rw [laid_old l (k + 1) f _ s (fun o' ho' => h o' (List.mem_cons_of_mem _ ho'))]
    cases f k with
    | none => rfl
    | some u => exact put_get_ne a _ _ s (h o (List.mem_cons_self ..))
theorem laid_new : ∀ (l : List Oper) (k : Nat) (f : Fill) (a : Act) (i : Nat) (o : Oper) (s : Tmp) (v : Value), distinctD l = true → l[i]? = some o → o.dst = some s → s < a.tmps.size → f (k + i) = some v → (laid l k f a).tmps.getD s undef = v
  | [], _, _, _, _, _, _, _, _, h, _, _, _ => by simp at h
  | o :: l, k, f, a, 0, o', s, v, hd, ho, hs, hn, hf => by
    simp only [distinctD, Bool.and_eq_true, List.all_eq_true] at hd
    simp only [List.getElem?_cons_zero, Option.some.injEq] at ho
    subst ho
    simp only [laid, Nat.add_zero] at hf ⊢
    rw [hf, laid_old l (k + 1) f _ s (fun o' ho' e => apartD_spec (hd.1 o' ho') s hs e)]
    simp [Act.put, hs, hn]
  | o :: l, k, f, a, i + 1, o', s, v, hd, ho, hs, hn, hf => by
    simp only [distinctD, Bool.and_eq_true] at hd
    simp only [List.getElem?_cons_succ] at ho
    simp only [laid]
    refine laid_new l (k + 1) f _ i o' s v hd.2 ho hs ?_ (by rw [← hf]; congr 1; omega)
    cases f k with
    | none => exact hn
    | some u => rw [put_size]; exact hn

/-- Which operations have come up: with each all that it waits for. -/
def Closed (l : List Oper) (f : Fill) : Prop := ∀ i o, l[i]? = some o → (f i).isSome = true → ∀ e ∈ o.after, Region.binds .any e = true → (f e.on).isSome = true
def waitsOn (l : List Oper) (i j : Nat) : Bool := match l[i]? with
  | some o => o.after.any fun e => Region.binds .any e && e.on == j
  | none => false
theorem Closed.up {l : List Oper} {f : Fill} (h : Closed l f) (i j : Nat) (hw : waitsOn l i j = true) (hi : (f i).isSome = true) : (f j).isSome = true := by
  unfold waitsOn at hw
  split at hw
  · rename_i o ho
    obtain ⟨e, he, hb⟩ := Array.any_eq_true'.1 hw
    simp only [Bool.and_eq_true, beq_iff_eq] at hb
    rw [← hb.2]
    exact h i o ho hi e he hb.1
  · cases hw
/-- What waits for one that has not come up has not come up. -/
theorem Closed.down {l : List Oper} {f : Fill} (h : Closed l f) (i j : Nat) (hw : waitsOn l i j = true) (hj : f j = none) : f i = none := by
  cases hi : f i with
  | none => rfl
  | some v =>
    have := h.up i j hw (by rw [hi]; rfl)
    rw [hj] at this
    cases this
/-- What the frame a' shows of the values f beside the frame a. -/
structure Sees (l : List Oper) (f : Fill) (a a' : Act) : Prop where
  new : ∀ i o s v, l[i]? = some o → o.dst = some s → f i = some v → a'.tmps.getD s undef = v
  old : ∀ s, (l.all fun o => o.dst != some s) = true → a'.tmps.getD s undef = a.tmps.getD s undef
theorem Sees.val {l : List Oper} {f : Fill} {a a' : Act} (h : Sees l f a a') (i : Nat) (s : Tmp) {v : Value} (hi : (l[i]?).bind (·.dst) = some s) (hf : f i = some v) : a'.eval (.tmp s) = v := by
  obtain ⟨o, ho, hs⟩ := Option.bind_eq_some_iff.1 hi
  exact h.new i o s v ho hs hf
theorem Sees.old' {l : List Oper} {f : Fill} {a a' : Act} (h : Sees l f a a') (s : Tmp) (hs : (l.all fun o => o.dst != some s) = true) {v : Value} (hv : a.tmps.getD s undef = v) : a'.eval (.tmp s) = v := (h.old s hs).trans hv

section
variable {P : Program} {Q : Exit → Act → World → Prop}
/-- What is to be shown of operation number i. -/
def LinStep (P : Program) (Q : Exit → Act → World → Prop) (l : List Oper) (J : Fill → World → Prop) (a : Act) (i : Nat) (o : Oper) : Prop :=
  ∀ (f : Fill) (b : Act) (u : World) (K : Act → World → Prop), J f u → f i = none → Closed l f → (∀ j, waitsOn l i j = true → (f j).isSome = true) → Sees l f a b →
    (∀ v u', J (f.upd i v) u' → K (b.put o.dst v) u') → if Region.wanted o (yielded l.toArray b.tmps) = true then Oper.wp P o b u K Q else False
def LinAll (P : Program) (Q : Exit → Act → World → Prop) (l : List Oper) (J : Fill → World → Prop) (a : Act) : List Oper → Nat → Prop
  | [], _ => True
  | o :: r, k => LinStep P Q l J a k o ∧ LinAll P Q l J a r (k + 1)
theorem LinAll.nil {l : List Oper} {J : Fill → World → Prop} {a : Act} {k : Nat} : LinAll P Q l J a [] k := trivial
theorem LinAll.cons {l : List Oper} {J : Fill → World → Prop} {a : Act} {o : Oper} {r : List Oper} {k : Nat} (h : LinStep P Q l J a k o) (hr : LinAll P Q l J a r (k + 1)) : LinAll P Q l J a (o :: r) k := ⟨h, hr⟩
theorem LinAll.at {l : List Oper} {J : Fill → World → Prop} {a : Act} : ∀ {r : List Oper} {k : Nat}, LinAll P Q l J a r k → ∀ i o, r[i]? = some o → LinStep P Q l J a (k + i) o
  | [], _, _, _, _, h => by simp at h
  | o :: r, k, h, 0, o', ho => by
    simp only [List.getElem?_cons_zero, Option.some.injEq] at ho
    subst ho
    exact h.1
  | o :: r, k, h, i + 1, o', ho => by
    simp only [List.getElem?_cons_succ] at ho
    rw [show k + (i + 1) = k + 1 + i by omega]
    exact LinAll.at h.2 i o' ho

def unl : Nat → Fill → Nat
  | 0, _ => 0
  | n + 1, f => unl n f + (if (f n).isNone then 1 else 0)
theorem unl_same : ∀ (n : Nat) (f : Fill) (i : Nat) (v : Value), n ≤ i → unl n (f.upd i v) = unl n f
  | 0, _, _, _, _ => rfl
  | n + 1, f, i, v, h => by
    have e : f.upd i v n = f n := by simp only [Fill.upd]; rw [if_neg (by omega)]
    simp only [unl, e]
    rw [unl_same n f i v (by omega)]
theorem unl_upd : ∀ (n : Nat) (f : Fill) (i : Nat) (v : Value), i < n → f i = none → unl n (f.upd i v) + 1 = unl n f
  | 0, _, _, _, h, _ => absurd h (Nat.not_lt_zero _)
  | n + 1, f, i, v, h, hf => by
    simp only [unl]
    by_cases e : i = n
    · subst e
      rw [unl_same i f i v (Nat.le_refl _)]
      simp [Fill.upd, hf]
    · have h2 : f.upd i v n = f n := by simp only [Fill.upd]; rw [if_neg (by omega)]
      rw [h2]
      have := unl_upd n f i v (by omega) hf
      omega
theorem unl_zero : ∀ (n : Nat) (f : Fill), unl n f = 0 → ∀ i, i < n → (f i).isSome = true
  | 0, _, _, _, h => absurd h (Nat.not_lt_zero _)
  | n + 1, f, h, i, hi => by
    simp only [unl] at h
    by_cases e : i = n
    · subst e
      cases hf : f i with
      | none => rw [hf] at h; simp at h
      | some v => rfl
    · exact unl_zero n f (by omega) i (by omega)
theorem unl_le : ∀ (n : Nat) (f : Fill), unl n f ≤ n
  | 0, _ => Nat.le_refl _
  | n + 1, f => by
    have := unl_le n f
    simp only [unl]
    split <;> omega
/-- Nobody waits for a later one. -/
def backB (l : List Oper) : Bool := (List.range l.length).all fun i => match l[i]? with
  | some o => o.after.all fun e => !Region.binds .any e || decide (e.on < i)
  | none => true

theorem wp_region_lin {id : Nat} {a : Act} {w : World} {l : List Oper} (J : Fill → World → Prop) (hm : P.follows .mixedOrders = true) (hB : (linB l a.tmps.size && backB l) = true)
    (h0 : J (fun _ => none) w.drew) (hs : LinAll P Q l J a l 0)
    (hend : ∀ f u, (∀ i, i < l.length → (f i).isSome = true) → J f u → Q .normal (laid l 0 f a) u) : (Code.region id l.toArray true).wp P Q a w := by
  refine wp_region_any hm ?_
  simp only [linB, Bool.and_eq_true, List.all_eq_true] at hB
  obtain ⟨⟨hg, hd⟩, hbk⟩ := hB
  have hback : ∀ i o, l[i]? = some o → ∀ e ∈ o.after, Region.binds .any e = true → e.on < i := by
    intro i o ho e he hb
    have hlt : i < l.length := (List.getElem?_eq_some_iff.1 ho).1
    have h1 := List.all_eq_true.1 hbk i (List.mem_range.2 hlt)
    rw [ho] at h1
    have h2 := Array.all_eq_true_iff_forall_mem.1 h1 e he
    simpa [hb] using h2
  have main : ∀ (fuel : Nat) (listed : Array Bool) (f : Fill) (u : World), listed.size = l.length → (∀ i, i < l.length → listed.getD i false = (f i).isSome) → Closed l f → J f u →
      unl l.length f ≤ fuel → wpAny P .any l.toArray Q fuel listed (laid l 0 f a) u := by
    intro fuel
    have lt_of : ∀ {j : Nat} {o : Oper}, l.toArray[j]? = some o → j < l.length ∧ l[j]? = some o := by
      intro j o h
      have h2 : l[j]? = some o := by simpa using h
      exact ⟨(List.getElem?_eq_some_iff.1 h2).1, h2⟩
    have getT : ∀ (listed : Array Bool) (j : Nat), listed.size = l.length → j < l.length → listed.getD j true = listed.getD j false := by
      intro listed j h1 h2
      simp [h1, h2]
    have endd : ∀ (listed : Array Bool) (f : Fill) (u : World), listed.size = l.length → (∀ i, i < l.length → listed.getD i false = (f i).isSome) → J f u → Region.ready .any l.toArray listed = [] → Q .normal (laid l 0 f a) u := by
      intro listed f u hls hlf hJ hr
      refine hend f u (fun i => ?_) hJ
      induction i using Nat.strongRecOn with
      | _ i ih =>
        intro hi
        cases hf : f i with
        | some v => rfl
        | none =>
          exfalso
          have hm : i ∈ Region.ready .any l.toArray listed := by
            refine mem_ready.2 ⟨?_, l[i], by simp [hi], fun e he hb => ?_⟩
            · rw [getT _ _ hls hi, hlf i hi, hf]; rfl
            · have h1 := hback i l[i] (List.getElem?_eq_getElem hi) e he hb
              rw [hlf _ (by omega)]
              exact ih e.on h1 (by omega)
          rw [hr] at hm
          cases hm
    induction fuel with
    | zero =>
      intro listed f u hls hlf hcl hJ hun
      have hall := unl_zero l.length f (by omega)
      have hr : Region.ready .any l.toArray listed = [] := by
        apply List.eq_nil_iff_forall_not_mem.2
        intro j hj
        obtain ⟨h1, o, ho, _⟩ := mem_ready.1 hj
        have hlt := (lt_of ho).1
        rw [getT _ _ hls hlt, hlf j hlt, hall j hlt] at h1
        cases h1
      exact ⟨hr, endd listed f u hls hlf hJ hr⟩
    | succ fuel ih =>
      intro listed f u hls hlf hcl hJ hun
      refine ⟨endd listed f u hls hlf hJ, fun i hi => ?_⟩
      obtain ⟨hl, o, ho, hall⟩ := mem_ready.1 hi
      obtain ⟨hlt, ho'⟩ := lt_of ho
      have hfi : f i = none := by
        rw [getT _ _ hls hlt, hlf i hlt] at hl
        cases e : f i with
        | none => rfl
        | some v => rw [e] at hl; cases hl
      have hst := (by simpa using hs.at i o ho' : LinStep P Q l J a i o)
      have hgo := hg o (List.mem_of_getElem? ho')
      simp only [Option.isNone_iff_eq_none] at hgo
      have hwant : Region.wanted o (yielded l.toArray (laid l 0 f a).tmps) = true := by simp [Region.wanted, hgo.1]
      have hsees : Sees l f a (laid l 0 f a) := by
        refine ⟨fun j oj s v hoj hsj hv => ?_, fun s hs => ?_⟩
        · refine laid_new l 0 f a j oj s v hd hoj hsj ?_ (by simpa using hv)
          have := (hg oj (List.mem_of_getElem? hoj)).2
          rw [hsj] at this
          exact of_decide_eq_true this
        · refine laid_old l 0 f a s (fun o' ho' e => ?_)
          have := List.all_eq_true.1 hs o' ho'
          simp [e] at this
      have hup : ∀ j, waitsOn l i j = true → (f j).isSome = true := by
        intro j hw
        unfold waitsOn at hw
        rw [ho'] at hw
        obtain ⟨e, he, hb⟩ := Array.any_eq_true'.1 hw
        simp only [Bool.and_eq_true, beq_iff_eq] at hb
        have h1 := hall e he hb.1
        have h2 := hback i o ho' e he hb.1
        rw [hlf _ (by omega)] at h1
        rw [← hb.2]; exact h1
      have H := hst f (laid l 0 f a) u (fun b u' => wpAny P .any l.toArray Q fuel (listed.setIfInBounds i true) b u') hJ hfi hcl hup hsees (fun v u' hJ' => by
        rw [laid_upd l 0 f a i o v hd ho' (by simpa using hfi), Nat.zero_add]
        refine ih _ _ _ (by simpa using hls) (fun k hk => ?_) (fun k ok hok hks e he hb => ?_) hJ' ?_
        · by_cases e : k = i
          · subst e
            simp [Fill.upd, hls, hk]
          · rw [getD_set_ne false (Ne.symm e), hlf k hk]
            simp [Fill.upd, e]
        · by_cases e2 : e.on = i
          · simp [Fill.upd, e2]
          · have h3 : (f.upd i v e.on) = f e.on := by simp [Fill.upd, e2]
            rw [h3]
            by_cases e3 : k = i
            · subst e3
              rw [ho'] at hok
              cases hok
              have h1 := hall e he hb
              have h2 := hback k o ho' e he hb
              rwa [hlf _ (by omega)] at h1
            · have h4 : f.upd i v k = f k := by simp [Fill.upd, e3]
              rw [h4] at hks
              exact hcl k ok hok hks e he hb
        · have := unl_upd l.length f i v hlt hfi
          omega)
      rw [if_pos hwant] at H
      unfold wpOp
      simp only [ho, hwant, if_true]
      exact .inl H
  have h := main l.length (Array.replicate l.length false) (fun _ => none) w.drew (by simp) (fun i hi => by simp [hi]) (fun i o _ h => by cases h) h0 (unl_le _ _)
  have e0 : laid l 0 (fun _ => none) a = a := by
    have : ∀ (l : List Oper) (k : Nat), laid l k (fun _ => none) a = a := by
      intro l
      induction l with
      | nil => intro k; rfl
      | cons o l ih => intro k; simp only [laid]; exact ih (k + 1)
    exact this l 0
  rw [e0] at h
  have e1 : l.toArray.size = l.length := by simp
  rw [e1]
  exact h
end
end Go.Proofs.Ytcecgbjpmegljaa
