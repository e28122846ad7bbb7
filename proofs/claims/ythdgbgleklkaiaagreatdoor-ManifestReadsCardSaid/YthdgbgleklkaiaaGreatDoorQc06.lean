/- A region that draws its order, walked once an operation: The steps of. Condition: as each theorem says. -/

import Derived.Test.YthdgbgleklkaiaaGreatDoorQc04
open List renaming mem_cons_self→abC,all_eq_true→abD,mem_cons_of_mem→abF,getElem?_cons_zero→abG,getElem?_cons_succ→abH,getElem?_eq_getElem→abI,mem_of_getElem?→abJ,getD→abK,pairwise_iff_getElem→abQ,foldl_cons→abR,getElem?_append_right→abT
open Nat renaming le_refl→abE,not_lt_zero→abM,strongRecOn→abN
open Array renaming replicate→abP
open Option renaming map_some→abV
set_option linter.unusedSimpArgs false
set_option linter.unusedVariables false
namespace Go.Proofs.YthdgbgleklkaiaaGreatDoor
open Go.RowKit
abbrev Fill:=Nat→Option Value
def Fill.upd (f:Fill) (i:Nat) (v:Value):Fill:=fun j=>if j=i then some v else f j
def laid:List Oper→Nat→Fill→Act→Act
 | [],_,_,a=>a
 | o :: l,k,f,a=>laid l (k+1) f (match f k with|some v=>a.put o.dst v|none=>a)
def Gi (x y:Option Tmp):Bool:=match x,y with
 | some d,some e=>d != e
 | _,_=>true
theorem wZ {x y:Option Tmp} (h:Gi x y=true):∀ d,x=some d→y≠some d:=by
 rintro d rfl rfl
 simp [Gi] at h
def iN:List Oper→Bool
 | []=>true
 | o :: l=>l.all (fun o'=>Gi o.dst o'.dst) && iN l
def linB (l:List Oper) (n:Nat):Bool:=l.all (fun o=>o.guard.isNone && (match o.dst with|some s=>decide (s < n)|none=>true)) && iN l
theorem Ad:∀ (l:List Oper) (k:Nat) (f g:Fill) (a:Act),(∀ i,k≤i→f i=g i)→laid l k f a=laid l k g a
 | [],_,_,_,_,_=>rfl
 | o :: l,k,f,g,a,h=>by
  simp only [laid]
  rw [h k (abE _)]
  exact Ad l (k+1) f g _ (fun i hi=>h i (by omega))
theorem Jc:∀ (l:List Oper) (k:Nat) (f:Fill) (a:Act) (x:Option Tmp) (v:Value),(∀ o∈l,Gi x o.dst=true)→(laid l k f a).put x v=laid l k f (a.put x v)
 | [],_,_,_,_,_,_=>rfl
 | o :: l,k,f,a,x,v,h=>by
  simp only [laid]
  rw [Jc l (k+1) f _ x v (fun o' ho'=>h o' (abF _ ho'))]
  congr 1
  cases f k with
  | none=>rfl
  | some u=>exact (Act.put_comm a v u (wZ (h o (abC ..)))).symm
theorem tO:∀ (l:List Oper) (k:Nat) (f:Fill) (a:Act) (i:Nat) (o:Oper) (v:Value),iN l=true→l[i]? = some o→f (k+i)=none→(laid l k f a).put o.dst v=laid l k (f.upd (k+i) v) a
 | [],_,_,_,_,_,_,_,h,_=>by simp at h
 | o :: l,k,f,a,0,o',v,hd,ho,hf=>by
  simp only [iN,Bool.and_eq_true,abD] at hd
  simp only [abG,Option.some.injEq] at ho
  subst ho
  simp only [laid,Nat.add_zero] at hf ⊢
  rw [hf,Jc l (k+1) f a o.dst v hd.1]
  have e:f.upd k v k=some v:=by simp [Fill.upd]
  simp only [e]
  exact Ad l (k+1) f _ _ (fun i hi=>by simp only [Fill.upd];rw [if_neg (by omega)])
 | o :: l,k,f,a,i+1,o',v,hd,ho,hf=>by
  simp only [iN,Bool.and_eq_true] at hd
  simp only [abH] at ho
  simp only [laid]
  rw [tO l (k+1) f _ i o' v hd.2 ho (by rw [← hf];congr 1;omega)]
  have e:f.upd (k+(i+1)) v k=f k:=by simp only [Fill.upd];rw [if_neg (by omega)]
  rw [e,show k+1+i=k+(i+1) by omega]
theorem KR (a:Act) (x:Option Tmp) (v:Value) (s:Tmp) (h:x≠some s):(a.put x v).tmps.getD s undef=a.tmps.getD s undef:=by
 cases x with
 | none=>rfl
 | some d =>
  have:d≠s:=fun e=>h (by rw [e])
  simp [Act.put,Array.getElem?_setIfInBounds_ne this]
theorem Wz (a:Act) (x:Option Tmp) (v:Value):(a.put x v).tmps.size=a.tmps.size:=by
 cases x <;> simp [Act.put]
theorem pF:∀ (l:List Oper) (k:Nat) (f:Fill) (a:Act) (s:Tmp),(∀ o∈l,o.dst≠some s)→(laid l k f a).tmps.getD s undef=a.tmps.getD s undef
 | [],_,_,_,_,_=>rfl
 | o :: l,k,f,a,s,h=>by
  simp only [laid]
  rw [pF l (k+1) f _ s (fun o' ho'=>h o' (abF _ ho'))]
  cases f k with
  | none=>rfl
  | some u=>exact KR a _ _ s (h o (abC ..))
theorem tQ:∀ (l:List Oper) (k:Nat) (f:Fill) (a:Act) (i:Nat) (o:Oper) (s:Tmp) (v:Value),iN l=true→l[i]? = some o→o.dst=some s→s < a.tmps.size→f (k+i)=some v→(laid l k f a).tmps.getD s undef=v
 | [],_,_,_,_,_,_,_,_,h,_,_,_=>by simp at h
 | o :: l,k,f,a,0,o',s,v,hd,ho,hs,hn,hf=>by
  simp only [iN,Bool.and_eq_true,abD] at hd
  simp only [abG,Option.some.injEq] at ho
  subst ho
  simp only [laid,Nat.add_zero] at hf ⊢
  rw [hf,pF l (k+1) f _ s (fun o' ho' e=>wZ (hd.1 o' ho') s hs e)]
  simp [Act.put,hs,hn]
 | o :: l,k,f,a,i+1,o',s,v,hd,ho,hs,hn,hf=>by
  simp only [iN,Bool.and_eq_true] at hd
  simp only [abH] at ho
  simp only [laid]
  refine tQ l (k+1) f _ i o' s v hd.2 ho hs ?_ (by rw [← hf];congr 1;omega)
  cases f k with
  | none=>exact hn
  | some u=>rw [Wz];exact hn
def Closed (l:List Oper) (f:Fill):Prop:=∀ i o,l[i]? = some o→(f i).isSome=true→∀ e∈o.after,Region.binds .any e=true→(f e.on).isSome=true
def dF (l:List Oper) (i j:Nat):Bool:=match l[i]? with
 | some o=>o.after.any fun e=>Region.binds .any e && e.on == j
 | none=>false
theorem Closed.up {l:List Oper} {f:Fill} (h:Closed l f) (i j:Nat) (hw:dF l i j=true) (hi:(f i).isSome=true):(f j).isSome=true:=by
 unfold dF at hw
 split at hw
 ·rename_i o ho
  obtain ⟨e,he,hb⟩:=Array.any_eq_true'.1 hw
  simp only [Bool.and_eq_true,beq_iff_eq] at hb
  rw [← hb.2]
  exact h i o ho hi e he hb.1
 ·cases hw
theorem Closed.down {l:List Oper} {f:Fill} (h:Closed l f) (i j:Nat) (hw:dF l i j=true) (hj:f j=none):f i=none:=by
 cases hi:f i with
 | none=>rfl
 | some v =>
  have:=h.up i j hw (by rw [hi];rfl)
  rw [hj] at this
  cases this
structure uy (l:List Oper) (f:Fill) (a a':Act):Prop where
 new:∀ i o s v,l[i]? = some o→o.dst=some s→f i=some v→a'.tmps.getD s undef=v
 old:∀ s,(l.all fun o=>o.dst != some s)=true→a'.tmps.getD s undef=a.tmps.getD s undef
theorem uy.val {l:List Oper} {f:Fill} {a a':Act} (h:uy l f a a') (i:Nat) (s:Tmp) {v:Value} (hi:(l[i]?).bind (·.dst)=some s) (hf:f i=some v):a'.eval (.tmp s)=v:=by
 obtain ⟨o,ho,hs⟩:=Option.bind_eq_some_iff.1 hi
 exact h.new i o s v ho hs hf
theorem uy.old' {l:List Oper} {f:Fill} {a a':Act} (h:uy l f a a') (s:Tmp) (hs:(l.all fun o=>o.dst != some s)=true) {v:Value} (hv:a.tmps.getD s undef=v):a'.eval (.tmp s)=v:=(h.old s hs).trans hv
section
variable {P:Program} {Q:Exit→Act→World→Prop}
def yJ (P:Program) (Q:Exit→Act→World→Prop) (l:List Oper) (J:Fill→World→Prop) (a:Act) (i:Nat) (o:Oper):Prop :=
 ∀ (f:Fill) (b:Act) (u:World) (K:Act→World→Prop),J f u→f i=none→Closed l f→(∀ j,dF l i j=true→(f j).isSome=true)→uy l f a b →
  (∀ v u',J (f.upd i v) u'→K (b.put o.dst v) u')→if Region.wanted o (yielded l.toArray b.tmps)=true then Oper.wp P o b u K Q else False
def bI (P:Program) (Q:Exit→Act→World→Prop) (l:List Oper) (J:Fill→World→Prop) (a:Act):List Oper→Nat→Prop
 | [],_=>True
 | o :: r,k=>yJ P Q l J a k o∧bI P Q l J a r (k+1)
theorem bI.nil {l:List Oper} {J:Fill→World→Prop} {a:Act} {k:Nat}:bI P Q l J a [] k:=trivial
theorem bI.cons {l:List Oper} {J:Fill→World→Prop} {a:Act} {o:Oper} {r:List Oper} {k:Nat} (h:yJ P Q l J a k o) (hr:bI P Q l J a r (k+1)):bI P Q l J a (o :: r) k:=⟨h,hr⟩
theorem bI.at {l:List Oper} {J:Fill→World→Prop} {a:Act}:∀ {r:List Oper} {k:Nat},bI P Q l J a r k→∀ i o,r[i]? = some o→yJ P Q l J a (k+i) o
 | [],_,_,_,_,h=>by simp at h
 | o :: r,k,h,0,o',ho=>by
  simp only [abG,Option.some.injEq] at ho
  subst ho
  exact h.1
 | o :: r,k,h,i+1,o',ho=>by
  simp only [abH] at ho
  rw [show k+(i+1)=k+1+i by omega]
  exact bI.at h.2 i o' ho
def RJ:Nat→Fill→Nat
 | 0,_=>0
 | n+1,f=>RJ n f+(if (f n).isNone then 1 else 0)
theorem Io:∀ (n:Nat) (f:Fill) (i:Nat) (v:Value),n≤i→RJ n (f.upd i v)=RJ n f
 | 0,_,_,_,_=>rfl
 | n+1,f,i,v,h=>by
  have e:f.upd i v n=f n:=by simp only [Fill.upd];rw [if_neg (by omega)]
  simp only [RJ,e]
  rw [Io n f i v (by omega)]
theorem EG:∀ (n:Nat) (f:Fill) (i:Nat) (v:Value),i < n→f i=none→RJ n (f.upd i v)+1=RJ n f
 | 0,_,_,_,h,_=>absurd h (abM _)
 | n+1,f,i,v,h,hf=>by
  simp only [RJ]
  by_cases e:i=n
  ·subst e
   rw [Io i f i v (abE _)]
   simp [Fill.upd,hf]
  ·have h2:f.upd i v n=f n:=by simp only [Fill.upd];rw [if_neg (by omega)]
   rw [h2]
   have:=EG n f i v (by omega) hf
   omega
theorem yY:∀ (n:Nat) (f:Fill),RJ n f=0→∀ i,i < n→(f i).isSome=true
 | 0,_,_,_,h=>absurd h (abM _)
 | n+1,f,h,i,hi=>by
  simp only [RJ] at h
  by_cases e:i=n
  ·subst e
   cases hf:f i with
   | none=>rw [hf] at h;simp at h
   | some v=>rfl
  ·exact yY n f (by omega) i (by omega)
theorem Ky:∀ (n:Nat) (f:Fill),RJ n f≤n
 | 0,_=>abE _
 | n+1,f=>by
  have:=Ky n f
  simp only [RJ]
  split <;> omega
def JQ (l:List Oper):Bool:=(List.range l.length).all fun i=>match l[i]? with
 | some o=>o.after.all fun e => !Region.binds .any e || decide (e.on < i)
 | none=>true
theorem gW {id:Nat} {a:Act} {w:World} {l:List Oper} (J:Fill→World→Prop) (hm:P.follows .mixedOrders=true) (hB:(linB l a.tmps.size && JQ l)=true)
  (h0:J (fun _=>none) w.drew) (hs:bI P Q l J a l 0)
  (hend:∀ f u,(∀ i,i < l.length→(f i).isSome=true)→J f u→Q .normal (laid l 0 f a) u):(Code.region id l.toArray true).wp P Q a w:=by
 refine wp_region_any hm ?_
 simp only [linB,Bool.and_eq_true,abD] at hB
 obtain ⟨⟨hg,hd⟩,hbk⟩:=hB
 have hback:∀ i o,l[i]? = some o→∀ e∈o.after,Region.binds .any e=true→e.on < i:=by
  intro i o ho e he hb
  have hlt:i < l.length:=(List.getElem?_eq_some_iff.1 ho).1
  have h1:=List.all_eq_true.1 hbk i (List.mem_range.2 hlt)
  rw [ho] at h1
  have h2:=Array.all_eq_true_iff_forall_mem.1 h1 e he
  simpa [hb] using h2
 have main:∀ (fuel:Nat) (listed:Array Bool) (f:Fill) (u:World),listed.size=l.length→(∀ i,i < l.length→listed.getD i false=(f i).isSome)→Closed l f→J f u →
   RJ l.length f≤fuel→wpAny P .any l.toArray Q fuel listed (laid l 0 f a) u:=by
  intro fuel
  have I9:∀ {j:Nat} {o:Oper},l.toArray[j]? = some o→j < l.length∧l[j]? = some o:=by
   intro j o h
   have h2:l[j]? = some o:=by simpa using h
   exact ⟨(List.getElem?_eq_some_iff.1 h2).1,h2⟩
  have M9:∀ (listed:Array Bool) (j:Nat),listed.size=l.length→j < l.length→listed.getD j true=listed.getD j false:=by
   intro listed j h1 h2
   simp [h1,h2]
  have ZC:∀ (listed:Array Bool) (f:Fill) (u:World),listed.size=l.length→(∀ i,i < l.length→listed.getD i false=(f i).isSome)→J f u→Region.ready .any l.toArray listed=[]→Q .normal (laid l 0 f a) u:=by
   intro listed f u hls hlf hJ hr
   refine hend f u (fun i=>?_) hJ
   induction i using abN with
   | _ i ih =>
    intro hi
    cases hf:f i with
    | some v=>rfl
    | none =>
     exfalso
     have hm:i∈Region.ready .any l.toArray listed:=by
      refine mem_ready.2 ⟨?_,l[i],by simp [hi],fun e he hb=>?_⟩
      ·rw [M9 _ _ hls hi,hlf i hi,hf];rfl
      ·have h1:=hback i l[i] (abI hi) e he hb
       rw [hlf _ (by omega)]
       exact ih e.on h1 (by omega)
     rw [hr] at hm
     cases hm
  induction fuel with
  | zero =>
   intro listed f u hls hlf hcl hJ hun
   have hall:=yY l.length f (by omega)
   have hr:Region.ready .any l.toArray listed=[]:=by
    apply List.eq_nil_iff_forall_not_mem.2
    intro j hj
    obtain ⟨h1,o,ho,_⟩:=mem_ready.1 hj
    have hlt:=(I9 ho).1
    rw [M9 _ _ hls hlt,hlf j hlt,hall j hlt] at h1
    cases h1
   exact ⟨hr,ZC listed f u hls hlf hJ hr⟩
  | succ fuel ih =>
   intro listed f u hls hlf hcl hJ hun
   refine ⟨ZC listed f u hls hlf hJ,fun i hi=>?_⟩
   obtain ⟨hl,o,ho,hall⟩:=mem_ready.1 hi
   obtain ⟨hlt,ho'⟩:=I9 ho
   have hfi:f i=none:=by
    rw [M9 _ _ hls hlt,hlf i hlt] at hl
    cases e:f i with
    | none=>rfl
    | some v=>rw [e] at hl;cases hl
   have hst:=(by simpa using hs.at i o ho':yJ P Q l J a i o)
   have hgo:=hg o (abJ ho')
   simp only [Option.isNone_iff_eq_none] at hgo
   have hwant:Region.wanted o (yielded l.toArray (laid l 0 f a).tmps)=true:=by simp [Region.wanted,hgo.1]
   have Jt:uy l f a (laid l 0 f a):=by
    refine ⟨fun j oj s v hoj hsj hv=>?_,fun s hs=>?_⟩
    ·refine tQ l 0 f a j oj s v hd hoj hsj ?_ (by simpa using hv)
     have:=(hg oj (abJ hoj)).2
     rw [hsj] at this
     exact of_decide_eq_true this
    ·refine pF l 0 f a s (fun o' ho' e=>?_)
     have:=List.all_eq_true.1 hs o' ho'
     simp [e] at this
   have hup:∀ j,dF l i j=true→(f j).isSome=true:=by
    intro j hw
    unfold dF at hw
    rw [ho'] at hw
    obtain ⟨e,he,hb⟩:=Array.any_eq_true'.1 hw
    simp only [Bool.and_eq_true,beq_iff_eq] at hb
    have h1:=hall e he hb.1
    have h2:=hback i o ho' e he hb.1
    rw [hlf _ (by omega)] at h1
    rw [← hb.2];exact h1
   have H:=hst f (laid l 0 f a) u (fun b u'=>wpAny P .any l.toArray Q fuel (listed.setIfInBounds i true) b u') hJ hfi hcl hup Jt (fun v u' hJ'=>by
    rw [tO l 0 f a i o v hd ho' (by simpa using hfi),Nat.zero_add]
    refine ih _ _ _ (by simpa using hls) (fun k hk=>?_) (fun k ok hok hks e he hb=>?_) hJ' ?_
    ·by_cases e:k=i
     ·subst e
      simp [Fill.upd,hls,hk]
     ·rw [getD_set_ne false (Ne.symm e),hlf k hk]
      simp [Fill.upd,e]
    ·by_cases e2:e.on=i
     ·simp [Fill.upd,e2]
     ·have h3:(f.upd i v e.on)=f e.on:=by simp [Fill.upd,e2]
      rw [h3]
      by_cases e3:k=i
      ·subst e3
       rw [ho'] at hok
       cases hok
       have h1:=hall e he hb
       have h2:=hback k o ho' e he hb
       rwa [hlf _ (by omega)] at h1
      ·have h4:f.upd i v k=f k:=by simp [Fill.upd,e3]
       rw [h4] at hks
       exact hcl k ok hok hks e he hb
    ·have:=EG l.length f i v hlt hfi
     omega)
   rw [if_pos hwant] at H
   unfold wpOp
   simp only [ho,hwant,if_true]
   exact .inl H
 have h:=main l.length (abP l.length false) (fun _=>none) w.drew (by simp) (fun i hi=>by simp [hi]) (fun i o _ h=>by cases h) h0 (Ky _ _)
 have e0:laid l 0 (fun _=>none) a=a:=by
  have:∀ (l:List Oper) (k:Nat),laid l k (fun _=>none) a=a:=by
   intro l
   induction l with
   | nil=>intro k;rfl
   | cons o l ih=>intro k;simp only [laid];exact ih (k+1)
  exact this l 0
 rw [e0] at h
 have e1:l.toArray.size=l.length:=by simp
 rw [e1]
 exact h
end
end Go.Proofs.YthdgbgleklkaiaaGreatDoor
namespace Go.Proofs.YthdgbgleklkaiaaGreatDoor
open Go.RowKit
section
variable {P:Program} {Q:Exit→Act→World→Prop} {ops:Array Oper}
theorem eG {o:Oper} {b:Act} {u:World} {K:Act→World→Prop} {E:Prop} (hgd:o.guard=none) (v:Value) (hrun:(execOp b.eval o).run P u = .ok (.value v) u) (h:K (b.put o.dst v) u) :
  if Region.wanted o (yielded ops b.tmps)=true then Oper.wp P o b u K Q else E:=by
 have hw:Region.wanted o (yielded ops b.tmps)=true:=by simp [Region.wanted,hgd]
 rw [if_pos hw]
 unfold Oper.wp
 rw [hrun]
 exact h
theorem nU {o:Oper} {ev:Operand→Value} {w:World} (t:TypeId) (ps:Array (Nat×Operand)) (ho:o.op = .build t ps) (vs:Array (Nat×Value)) (hvs:ps.toList.map (fun p=>(p.1,ev p.2))=vs.toList) (v:Value) (hrun:(Instr.build t vs).run P w = .ok v w):(execOp ev o).run P w = .ok (.value v) w:=by
 have hv:ps.map (fun p=>(p.1,ev p.2))=vs:=by apply Array.toList_inj.1;rw [Array.toList_map];exact hvs
 simp only [execOp,ho,hv,Sem.run_bind,hrun,Result.andThen_ok]
 rfl
theorem fQ {o:Oper} {b:Act} {u:World} {K:Act→World→Prop} {E:Prop} (hgd:o.guard=none) (F:FuncId) (xs:List Operand) (ts:Array TypeId) (vs:List Value)
  (ho:o.op = .call { callee := .value (.func F),args:=xs.toArray,argTypes:=ts }) (hv:xs.map b.eval=vs) (hF:∀ (args:Array Value) (u:World),(callFunc F args).run P u = .ok (.enter F args) u)
  (h:Calls P F vs.toArray u (fun e w'=>∃ v,e = .returned v∧K (b.put o.dst v) w')) :
  if Region.wanted o (yielded ops b.tmps)=true then Oper.wp P o b u K Q else E:=by
 have hw:Region.wanted o (yielded ops b.tmps)=true:=by simp [Region.wanted,hgd]
 rw [if_pos hw]
 unfold Oper.wp
 have e:(execOp b.eval o).run P u = .ok (.enter F vs.toArray) u:=by
  have hv':xs.toArray.map b.eval=vs.toArray:=by rw [List.map_toArray,hv]
  simp only [execOp,ho,resolve,hv',Act.eval,Deferred.ofValue,Sem.run_bind,Sem.run_pure,Result.andThen_ok,invoke,Array.append_empty,Array.empty_append,hF]
 rw [e]
 exact Calls.mono h (fun e w' ⟨v,he,hk⟩=>by subst he;exact hk)
theorem uy.at {l:List Oper} {f:Fill} {a b:Act} {i:Nat} (hs:uy l f a b) (hup:∀ j,dF l i j=true→(f j).isSome=true) (j:Nat) (s:Tmp) (hw:dF l i j=true) (hd:(l[j]?).bind (·.dst)=some s)
  {V:Value} {R:Prop} (hV:∀ v,f j=some v→v=V∧R):b.eval (.tmp s)=V∧R:=by
 obtain ⟨v,hv⟩:=sE (hup j hw)
 obtain ⟨h1,h2⟩:=hV v hv
 exact ⟨(hs.val j s hd hv).trans h1,h2⟩
def ent (o:Option Value) (c:Array Value) (t:TypeId):List (Nat×Array Value×TypeId):=match o with
 | some (.pointer (some a))=>[(a.block,c,t)]
 | some (.slice (some a) _ _)=>[(a.block,c,t)]
 | _=>[]
theorem uf (c:Array Value) (t:TypeId):ent none c t=[]:=rfl
theorem A9 (g:Nat) (c:Array Value) (t:TypeId):ent (some (.pointer (some ⟨g,0,none⟩))) c t=[(g,c,t)]:=rfl
theorem TU (g n m:Nat) (c:Array Value) (t:TypeId):ent (some (.slice (some ⟨g,0,none⟩) n m)) c t=[(g,c,t)]:=rfl
theorem bO.perm {w wr:World} {l l':List (Nat×Array Value×TypeId)} (h:bO w wr l) (p:l.Perm l'):bO w wr l':=by
 have hmem:∀ g c t,(g,c,t)∈l→wr.heap[g]? = some (.cells c t (0,0))∧w.heap.size≤g:=by
  intro g c t hm
  obtain ⟨i,hi⟩:=List.getElem?_of_mem hm
  exact h.mem i g c t hi
 have hpw:l.Pairwise (fun x y=>x.1≠y.1):=by
  rw [abQ]
  intro i j hi hj hij e
  obtain ⟨⟨g,c,t⟩,hx⟩:∃ x,l[i]=x:=⟨_,rfl⟩
  obtain ⟨⟨g',c',t'⟩,hy⟩:∃ x,l[j]=x:=⟨_,rfl⟩
  rw [hx,hy] at e
  have e':g=g':=e
  subst e'
  have:=h.inj i j g c t c' t' (by rw [abI hi,hx]) (by rw [abI hj,hy])
  omega
 have hpw':l'.Pairwise (fun x y=>x.1≠y.1):=(p.pairwise_iff (fun h=>Ne.symm h)).1 hpw
 refine ⟨fun i g c t hi=>hmem g c t (p.mem_iff.2 (abJ hi)),fun i j g c t c' t' hi hj=>?_,h.below⟩
 obtain ⟨hi1,hi2⟩:=List.getElem?_eq_some_iff.1 hi
 obtain ⟨hj1,hj2⟩:=List.getElem?_eq_some_iff.1 hj
 rw [abQ] at hpw'
 rcases Nat.lt_trichotomy i j with hlt|heq|hgt
 ·exact absurd (by rw [hi2,hj2]) (hpw' i j hi1 hj1 hlt)
 ·exact heq
 ·exact absurd (by rw [hi2,hj2]) (hpw' j i hj1 hi1 hgt)
theorem WJ {α:Type} (a b:List α) (x:α):((a ++ b) ++ [x]).Perm (a ++ ([x] ++ b)):=(List.perm_append_singleton x (a ++ b)).trans List.perm_middle.symm
theorem bO.ins {w wr:World} {l a b l':List (Nat×Array Value×TypeId)} (h:bO w wr l) (c:Array Value) (t:TypeId) (e:l=a ++ b) (e':a ++ ([(wr.heap.size,c,t)] ++ b)=l'):bO w (wr.alloc (.cells c t)) l':=by
 subst e e'
 exact (h.alloc c t).perm (WJ a b _)
end
end Go.Proofs.YthdgbgleklkaiaaGreatDoor
namespace Go.Proofs.YthdgbgleklkaiaaGreatDoor
open Go.RowKit
def DF (l:List Oper) (n:Nat):Bool:=l.all (fun o=>match o.dst with|some s=>decide (s < n)|none=>true) && iN l
section
variable {P:Program} {Q:Exit→Act→World→Prop}
def nA (P:Program) (Q:Exit→Act→World→Prop) (l:List Oper) (J:Fill→World→Prop) (a:Act) (i:Nat) (o:Oper):Prop :=
 ∀ (f:Fill) (b:Act) (u:World) (K:Act→World→Prop),J f u→f i=none→Closed l f→(∀ j,dF l i j=true→(f j).isSome=true)→uy l f a b →
  (∀ v u',J (f.upd i v) u'→K (b.put o.dst v) u')→if Region.wanted o (yielded l.toArray b.tmps)=true then Oper.wp P o b u K Q else K (b.put o.dst undef) u
def dN (P:Program) (Q:Exit→Act→World→Prop) (l:List Oper) (J:Fill→World→Prop) (a:Act):List Oper→Nat→Prop
 | [],_=>True
 | o :: r,k=>nA P Q l J a k o∧dN P Q l J a r (k+1)
theorem dN.nil {l:List Oper} {J:Fill→World→Prop} {a:Act} {k:Nat}:dN P Q l J a [] k:=trivial
theorem dN.cons {l:List Oper} {J:Fill→World→Prop} {a:Act} {o:Oper} {r:List Oper} {k:Nat} (h:nA P Q l J a k o) (hr:dN P Q l J a r (k+1)):dN P Q l J a (o :: r) k:=⟨h,hr⟩
theorem dN.at {l:List Oper} {J:Fill→World→Prop} {a:Act}:∀ {r:List Oper} {k:Nat},dN P Q l J a r k→∀ i o,r[i]? = some o→nA P Q l J a (k+i) o
 | [],_,_,_,_,h=>by simp at h
 | o :: r,k,h,0,o',ho=>by
  simp only [abG,Option.some.injEq] at ho
  subst ho
  exact h.1
 | o :: r,k,h,i+1,o',ho=>by
  simp only [abH] at ho
  rw [show k+(i+1)=k+1+i by omega]
  exact dN.at h.2 i o' ho
theorem oP {id:Nat} {a:Act} {w:World} {l:List Oper} (J:Fill→World→Prop) (hm:P.follows .mixedOrders=true) (hB:(DF l a.tmps.size && JQ l)=true)
  (h0:J (fun _=>none) w.drew) (hs:dN P Q l J a l 0)
  (hend:∀ f u,(∀ i,i < l.length→(f i).isSome=true)→J f u→Q .normal (laid l 0 f a) u):(Code.region id l.toArray true).wp P Q a w:=by
 refine wp_region_any hm ?_
 simp only [DF,Bool.and_eq_true,abD] at hB
 obtain ⟨⟨hg,hd⟩,hbk⟩:=hB
 have hback:∀ i o,l[i]? = some o→∀ e∈o.after,Region.binds .any e=true→e.on < i:=by
  intro i o ho e he hb
  have hlt:i < l.length:=(List.getElem?_eq_some_iff.1 ho).1
  have h1:=List.all_eq_true.1 hbk i (List.mem_range.2 hlt)
  rw [ho] at h1
  have h2:=Array.all_eq_true_iff_forall_mem.1 h1 e he
  simpa [hb] using h2
 have main:∀ (fuel:Nat) (listed:Array Bool) (f:Fill) (u:World),listed.size=l.length→(∀ i,i < l.length→listed.getD i false=(f i).isSome)→Closed l f→J f u →
   RJ l.length f≤fuel→wpAny P .any l.toArray Q fuel listed (laid l 0 f a) u:=by
  intro fuel
  have I9:∀ {j:Nat} {o:Oper},l.toArray[j]? = some o→j < l.length∧l[j]? = some o:=by
   intro j o h
   have h2:l[j]? = some o:=by simpa using h
   exact ⟨(List.getElem?_eq_some_iff.1 h2).1,h2⟩
  have M9:∀ (listed:Array Bool) (j:Nat),listed.size=l.length→j < l.length→listed.getD j true=listed.getD j false:=by
   intro listed j h1 h2
   simp [h1,h2]
  have ZC:∀ (listed:Array Bool) (f:Fill) (u:World),listed.size=l.length→(∀ i,i < l.length→listed.getD i false=(f i).isSome)→J f u→Region.ready .any l.toArray listed=[]→Q .normal (laid l 0 f a) u:=by
   intro listed f u hls hlf hJ hr
   refine hend f u (fun i=>?_) hJ
   induction i using abN with
   | _ i ih =>
    intro hi
    cases hf:f i with
    | some v=>rfl
    | none =>
     exfalso
     have hm:i∈Region.ready .any l.toArray listed:=by
      refine mem_ready.2 ⟨?_,l[i],by simp [hi],fun e he hb=>?_⟩
      ·rw [M9 _ _ hls hi,hlf i hi,hf];rfl
      ·have h1:=hback i l[i] (abI hi) e he hb
       rw [hlf _ (by omega)]
       exact ih e.on h1 (by omega)
     rw [hr] at hm
     cases hm
  induction fuel with
  | zero =>
   intro listed f u hls hlf hcl hJ hun
   have hall:=yY l.length f (by omega)
   have hr:Region.ready .any l.toArray listed=[]:=by
    apply List.eq_nil_iff_forall_not_mem.2
    intro j hj
    obtain ⟨h1,o,ho,_⟩:=mem_ready.1 hj
    have hlt:=(I9 ho).1
    rw [M9 _ _ hls hlt,hlf j hlt,hall j hlt] at h1
    cases h1
   exact ⟨hr,ZC listed f u hls hlf hJ hr⟩
  | succ fuel ih =>
   intro listed f u hls hlf hcl hJ hun
   refine ⟨ZC listed f u hls hlf hJ,fun i hi=>?_⟩
   obtain ⟨hl,o,ho,hall⟩:=mem_ready.1 hi
   obtain ⟨hlt,ho'⟩:=I9 ho
   have hfi:f i=none:=by
    rw [M9 _ _ hls hlt,hlf i hlt] at hl
    cases e:f i with
    | none=>rfl
    | some v=>rw [e] at hl;cases hl
   have hst:=(by simpa using hs.at i o ho':nA P Q l J a i o)
   have Jt:uy l f a (laid l 0 f a):=by
    refine ⟨fun j oj s v hoj hsj hv=>?_,fun s hs=>?_⟩
    ·refine tQ l 0 f a j oj s v hd hoj hsj ?_ (by simpa using hv)
     have:=hg oj (abJ hoj)
     rw [hsj] at this
     exact of_decide_eq_true this
    ·refine pF l 0 f a s (fun o' ho' e=>?_)
     have:=List.all_eq_true.1 hs o' ho'
     simp [e] at this
   have hup:∀ j,dF l i j=true→(f j).isSome=true:=by
    intro j hw
    unfold dF at hw
    rw [ho'] at hw
    obtain ⟨e,he,hb⟩:=Array.any_eq_true'.1 hw
    simp only [Bool.and_eq_true,beq_iff_eq] at hb
    have h1:=hall e he hb.1
    have h2:=hback i o ho' e he hb.1
    rw [hlf _ (by omega)] at h1
    rw [← hb.2];exact h1
   have H:=hst f (laid l 0 f a) u (fun b u'=>wpAny P .any l.toArray Q fuel (listed.setIfInBounds i true) b u') hJ hfi hcl hup Jt (fun v u' hJ'=>by
    rw [tO l 0 f a i o v hd ho' (by simpa using hfi),Nat.zero_add]
    refine ih _ _ _ (by simpa using hls) (fun k hk=>?_) (fun k ok hok hks e he hb=>?_) hJ' ?_
    ·by_cases e:k=i
     ·subst e
      simp [Fill.upd,hls,hk]
     ·rw [getD_set_ne false (Ne.symm e),hlf k hk]
      simp [Fill.upd,e]
    ·by_cases e2:e.on=i
     ·simp [Fill.upd,e2]
     ·have h3:(f.upd i v e.on)=f e.on:=by simp [Fill.upd,e2]
      rw [h3]
      by_cases e3:k=i
      ·subst e3
       rw [ho'] at hok
       cases hok
       have h1:=hall e he hb
       have h2:=hback k o ho' e he hb
       rwa [hlf _ (by omega)] at h1
      ·have h4:f.upd i v k=f k:=by simp [Fill.upd,e3]
       rw [h4] at hks
       exact hcl k ok hok hks e he hb
    ·have:=EG l.length f i v hlt hfi
     omega)
   unfold wpOp
   simp only [ho]
   split
   ·rename_i hw
    rw [if_pos hw] at H
    exact .inl H
   ·rename_i hw
    rw [if_neg hw] at H
    exact H
 have h:=main l.length (abP l.length false) (fun _=>none) w.drew (by simp) (fun i hi=>by simp [hi]) (fun i o _ h=>by cases h) h0 (Ky _ _)
 have e0:laid l 0 (fun _=>none) a=a:=by
  have:∀ (l:List Oper) (k:Nat),laid l k (fun _=>none) a=a:=by
   intro l
   induction l with
   | nil=>intro k;rfl
   | cons o l ih=>intro k;simp only [laid];exact ih (k+1)
  exact this l 0
 rw [e0] at h
 have e1:l.toArray.size=l.length:=by simp
 rw [e1]
 exact h
theorem Nb {o:Oper} {ev:Operand→Value} {w:World} (t:TypeId) (x:Operand) (lo hi:Option Operand) (ho:o.op = .slice t x lo hi none) (vx:Value) (vlo vhi:Option Value) (hx:ev x=vx) (hlo:lo.map ev=vlo) (hhi:hi.map ev=vhi) (v:Value)
  (hrun:(Instr.sliceAt t vx vlo vhi none).run P w = .ok v w):(execOp ev o).run P w = .ok (.value v) w:=by
 simp only [execOp,ho,hx,hlo,hhi,Option.map_none,Sem.run_bind,hrun,Result.andThen_ok]
 rfl
end
end Go.Proofs.YthdgbgleklkaiaaGreatDoor
namespace Go.Proofs.YthdgbgleklkaiaaGreatDoor
open Go.RowKit
abbrev OP:=Obj→Prop
structure Sp where
 val:Value→Prop
 obj:Value→Option (Nat×OP)
structure Holds (T:Nat→Prop) (w u:World) (L:Nat→Option (Nat×OP)):Prop where
 mem:∀ i g p,L i=some (g,p)→(∃ o,u.heap[g]? = some o∧p o)∧(T g∨w.heap.size≤g)
 inj:∀ i j g p q,L i=some (g,p)→L j=some (g,q)→i=j
 keep:Kept T w u
theorem Holds.lt {T:Nat→Prop} {w u:World} {L:Nat→Option (Nat×OP)} (h:Holds T w u L) {i g:Nat} {p:OP} (hi:L i=some (g,p)):g < u.heap.size:=let ⟨⟨_,ho,_⟩,_⟩:=h.mem i g p hi;aV ho
theorem Holds.below {T:Nat→Prop} {w u u':World} {L:Nat→Option (Nat×OP)} (h:Holds T w u L) (b:Below u.heap.size u u'):Holds T w u' L :=
 ⟨fun i g p hi=>let ⟨⟨o,ho,hp⟩,hT⟩:=h.mem i g p hi;⟨⟨o,Below.blk b ho (aV ho),hp⟩,hT⟩,h.inj,h.keep.trans (Kept.of_below b)⟩
theorem Holds.drew {T:Nat→Prop} {w u:World} {L:Nat→Option (Nat×OP)} (h:Holds T w u L):Holds T w u.drew L:=⟨h.mem,h.inj,h.keep.drew⟩
theorem Holds.drewN {T:Nat→Prop} {w u:World} {L:Nat→Option (Nat×OP)} (h:Holds T w u L) (n:Nat):Holds T w (u.drewN n) L:=⟨h.mem,h.inj,h.keep.drewN n⟩
theorem Holds.new {T:Nat→Prop} {w u u':World} {L:Nat→Option (Nat×OP)} (h:Holds T w u L) (κ:Nat) {g:Nat} {p:OP} {o:Obj} (b:Below u.heap.size u u') (hg:u.heap.size≤g) (ho:u'.heap[g]? = some o) (hp:p o) :
  Holds T w u' (fun i=>if i=κ then some (g,p) else L i):=by
 have h':=h.below b
 refine ⟨fun i g' p' hi=>?_,fun i j g' p' q' hi hj=>?_,h'.keep⟩
 ·by_cases e:i=κ
  ·rw [if_pos e] at hi
   cases hi
   exact ⟨⟨o,ho,hp⟩, .inr (Nat.le_trans h.keep.size hg)⟩
  ·rw [if_neg e] at hi
   exact h'.mem i g' p' hi
 ·by_cases e:i=κ <;> by_cases e':j=κ
  ·rw [e,e']
  ·rw [if_pos e] at hi
   rw [if_neg e'] at hj
   cases hi
   exact absurd (h.lt hj) (by omega)
  ·rw [if_neg e] at hi
   rw [if_pos e'] at hj
   cases hj
   exact absurd (h.lt hi) (by omega)
  ·rw [if_neg e] at hi
   rw [if_neg e'] at hj
   exact h.inj i j g' p' q' hi hj
theorem Holds.put {T:Nat→Prop} {w u u':World} {L:Nat→Option (Nat×OP)} (h:Holds T w u L) (κ:Nat) {g:Nat} {p q:OP} {o:Obj} (hk:L κ=some (g,p)) (k:Kept (· = g) u u') (ho:u'.heap[g]? = some o) (hq:q o) :
  Holds T w u' (fun i=>if i=κ then some (g,q) else L i):=by
 refine ⟨fun i g' p' hi=>?_,fun i j g' p' q' hi hj=>?_,h.keep.bS k ?_⟩
 ·by_cases e:i=κ
  ·rw [if_pos e] at hi
   cases hi
   exact ⟨⟨o,ho,hq⟩,(h.mem κ g p hk).2⟩
  ·rw [if_neg e] at hi
   obtain ⟨⟨o',ho',hp'⟩,hT⟩:=h.mem i g' p' hi
   exact ⟨⟨o',k.blk ho' (fun eg=>e (h.inj i κ g' p' p hi (eg▸hk))),hp'⟩,hT⟩
 ·have un:∀ m r,(if m=κ then some (g,q) else L m)=some (g',r)→∃ r',L m=some (g',r'):=by
   intro m r hm
   by_cases e:m=κ
   ·rw [if_pos e] at hm
    cases hm
    exact ⟨p,e▸hk⟩
   ·rw [if_neg e] at hm
    exact ⟨_,hm⟩
  obtain ⟨r1,h1⟩:=un i p' hi
  obtain ⟨r2,h2⟩:=un j q' hj
  exact h.inj i j g' r1 r2 h1 h2
 ·rintro i hi rfl
  rcases (h.mem κ i p hk).2 with hT|hw
  ·exact hT
  ·exact absurd hi (by omega)
inductive Ahead (l:List Oper):Nat→Nat→Prop
 | one {i j:Nat}:dF l i j=true→Ahead l i j
 | more {i j k:Nat}:dF l i j=true→Ahead l j k→Ahead l i k
theorem Ahead.some {l:List Oper} {f:Fill} (hc:Closed l f) {i j:Nat} (h:Ahead l i j):(f i).isSome=true→(f j).isSome=true:=by
 induction h with
 | one hw=>exact fun hi=>hc.up _ _ hw hi
 | more hw _ ih=>exact fun hi=>ih (hc.up _ _ hw hi)
theorem Ahead.up {l:List Oper} {f:Fill} (hc:Closed l f) {i j:Nat} (hu:∀ j,dF l i j=true→(f j).isSome=true) (h:Ahead l i j):(f j).isSome=true:=by
 cases h with
 | one hw=>exact hu _ hw
 | more hw h=>exact h.some hc (hu _ hw)
theorem Ahead.down {l:List Oper} {f:Fill} (hc:Closed l f) {i j:Nat} (h:Ahead l i j) (hj:f j=none):f i=none:=by
 cases hi:f i with
 | none=>rfl
 | some v=>have:=h.some hc (by rw [hi];rfl);rw [hj] at this;cases this
def mask (acc:List Nat) (es:List Edge):Nat:=es.foldl (fun s e=>if Region.binds .any e=true then s ||| 2 ^ e.on ||| acc.getD e.on 0 else s) 0
def Kc (l:List Oper):List Nat:=l.foldl (fun acc o=>acc ++ [mask acc o.after.toList]) []
theorem I6 (acc:List Nat) (j:Nat):∀ (es:List Edge) (s:Nat),(es.foldl (fun s e=>if Region.binds .any e=true then s ||| 2 ^ e.on ||| acc.getD e.on 0 else s) s).testBit j=true →
  s.testBit j=true∨∃ e∈es,Region.binds .any e=true∧(e.on=j∨(acc.getD e.on 0).testBit j=true)
 | [],s,h => .inl h
 | e :: es,s,h=>by
  rw [abR] at h
  rcases I6 acc j es _ h with h1|⟨e',he',h2⟩
  ·split at h1
   ·rename_i hb
    rw [Nat.testBit_or,Nat.testBit_or,Bool.or_eq_true,Bool.or_eq_true] at h1
    rcases h1 with (h1|h1)|h1
    ·exact .inl h1
    ·refine .inr ⟨e,abC .., hb, .inl ?_⟩
     rw [Nat.testBit_two_pow] at h1
     simpa using h1
    ·exact .inr ⟨e,abC .., hb, .inr h1⟩
   ·exact .inl h1
  ·exact .inr ⟨e',abF _ he',h2⟩
theorem vI {l:List Oper}:∀ (rest done:List Oper) (acc:List Nat),l=done ++ rest→acc.length=done.length→(∀ i j,(acc.getD i 0).testBit j=true→Ahead l i j) →
  ∀ i j,((rest.foldl (fun acc o=>acc ++ [mask acc o.after.toList]) acc).getD i 0).testBit j=true→Ahead l i j
 | [],_,_,_,_,h=>h
 | o :: rest,done,acc,hl,hn,h=>by
  rw [abR]
  refine vI rest (done ++ [o]) _ (by simp [hl]) (by simp [hn]) fun i j hij=>?_
  by_cases hlt:i < acc.length
  ·refine h i j ?_
   rwa [abK,List.getElem?_append_left hlt,← abK] at hij
  ·by_cases he:i=acc.length
   ·subst he
    rw [abK,abT (abE _),Nat.sub_self] at hij
    simp only [abG,Option.getD_some] at hij
    have ho:l[acc.length]? = some o:=by rw [hl,hn,abT (abE _),Nat.sub_self];rfl
    rcases I6 acc j _ 0 hij with h0|⟨e,he,hb,h1⟩
    ·simp at h0
    ·have hw:dF l acc.length e.on=true:=by
      unfold dF
      rw [ho]
      exact Array.any_eq_true'.2 ⟨e,by simpa using he,by simp [hb]⟩
     rcases h1 with h1|h1
     ·exact h1 ▸ .one hw
     ·exact .more hw (h _ _ h1)
   ·rw [abK,List.getElem?_eq_none (by simp;omega)] at hij
    simp at hij
def know (l:List Oper) (i k:Nat):Option Bool:=if ((Kc l).getD i 0).testBit k=true then some true else if ((Kc l).getD k 0).testBit i=true then some false else none
theorem FT {l:List Oper} {f:Fill} (hc:Closed l f) {i k:Nat} (hi:f i=none) (hu:∀ j,dF l i j=true→(f j).isSome=true) {b:Bool} (h:know l i k=some b):(f k).isSome=b:=by
 have A:∀ i j,((Kc l).getD i 0).testBit j=true→Ahead l i j:=vI l [] [] rfl rfl (fun i j h=>by simp at h)
 unfold know at h
 split at h
 ·rename_i h1
  cases h
  exact (A _ _ h1).up hc hu
 ·split at h
  ·rename_i h1
   cases h
   rw [(A _ _ h1).down hc hi]
   rfl
  ·cases h
abbrev Put:=Nat×Nat×OP
def jB (old:List (Nat×OP)) (sp:List Sp) (f:Fill) (κ:Nat):Option (Nat×OP) :=
 if κ < old.length then old[κ]? else match sp[κ - old.length]?, f (κ - old.length) with|some s,some v=>s.obj v|_,_=>none
def gF (pt:List Put) (f:Fill) (κ:Nat) (p:OP):OP:=pt.foldl (fun p e=>if e.2.1=κ∧(f e.1).isSome=true then e.2.2 else p) p
def dY (old:List (Nat×OP)) (sp:List Sp) (pt:List Put) (f:Fill) (κ:Nat):Option (Nat×OP):=(jB old sp f κ).map fun x=>(x.1,gF pt f κ x.2)
def DI (kn:Nat→Option Bool):List Put→Nat→OP→Option OP
 | [],_,p=>some p
 | (k,κ',q) :: r,κ,p=>if κ'=κ then (match kn k with|some true=>DI kn r κ q|some false=>DI kn r κ p|none=>none) else DI kn r κ p
theorem tT {kn:Nat→Option Bool} {f:Fill} (hk:∀ k b,kn k=some b→(f k).isSome=b):∀ (pt:List Put) (κ:Nat) (p q:OP),DI kn pt κ p=some q→gF pt f κ p=q
 | [],_,_,_,h=>by cases h;rfl
 | (k,κ',q0) :: r,κ,p,q,h=>by
  unfold DI at h
  show gF r f κ (if κ'=κ∧(f k).isSome=true then q0 else p)=q
  by_cases e:κ'=κ
  ·rw [if_pos e] at h
   split at h
   ·rename_i h1
    rw [if_pos ⟨e,hk _ _ h1⟩]
    exact tT hk r κ _ q h
   ·rename_i h1
    rw [if_neg (by rw [hk _ _ h1];simp)]
    exact tT hk r κ _ q h
   ·cases h
  ·rw [if_neg e] at h
   rw [if_neg (fun h=>e h.1)]
   exact tT hk r κ _ q h
def oD (pt:List Put) (i:Nat):Bool:=pt.all fun e=>e.1 != i
theorem qz (pt:List Put) (f:Fill) (i:Nat) (v:Value) (h:oD pt i=true) (κ:Nat):∀ p,gF pt (f.upd i v) κ p=gF pt f κ p:=by
 induction pt with
 | nil=>intro p;rfl
 | cons e r ih =>
  intro p
  simp only [oD,List.all_cons,Bool.and_eq_true,bne_iff_ne] at h
  have h1:f.upd i v e.1=f e.1:=by simp only [Fill.upd];rw [if_neg h.1]
  show gF r (f.upd i v) κ (if e.2.1=κ∧(f.upd i v e.1).isSome=true then e.2.2 else p)=gF r f κ (if e.2.1=κ∧(f e.1).isSome=true then e.2.2 else p)
  rw [h1]
  exact ih h.2 _
theorem rM (old:List (Nat×OP)) (sp:List Sp) (f:Fill) (i:Nat) (v:Value) (κ:Nat):jB old sp (f.upd i v) κ=if κ=old.length+i then (sp[i]?).bind (·.obj v) else jB old sp f κ:=by
 unfold jB
 by_cases e:κ=old.length+i
 ·rw [if_pos e,if_neg (by omega),show κ - old.length=i by omega]
  simp only [Fill.upd,if_pos]
  cases sp[i]? <;> rfl
 ·rw [if_neg e]
  split
  ·rfl
  ·have:f.upd i v (κ - old.length)=f (κ - old.length):=by simp only [Fill.upd];rw [if_neg (by omega)]
   rw [this]
theorem wY (old:List (Nat×OP)) (sp:List Sp) (f:Fill) (i:Nat) (h:f i=none):jB old sp f (old.length+i)=none:=by
 unfold jB
 rw [if_neg (by omega),show old.length+i - old.length=i by omega,h]
 split <;> simp_all
section
variable {old:List (Nat×OP)} {sp:List Sp} {pt:List Put} {f:Fill} {i:Nat} {s:Sp} {v:Value}
theorem Jv (hs:sp[i]? = some s) (ho:s.obj v=none) (hf:f i=none) (hp:oD pt i=true):dY old sp pt (f.upd i v)=dY old sp pt f:=by
 funext κ
 unfold dY
 rw [rM]
 simp only [qz pt f i v hp]
 split
 ·rename_i e
  rw [e,wY _ _ _ _ hf,hs]
  simp [ho]
 ·rfl
theorem LB {g:Nat} {p:OP} (hs:sp[i]? = some s) (ho:s.obj v=some (g,p)) (hp:oD pt i=true) (hn:∀ e∈pt,e.2.1=old.length+i→f e.1=none) :
  dY old sp pt (f.upd i v)=fun κ=>if κ=old.length+i then some (g,p) else dY old sp pt f κ:=by
 funext κ
 unfold dY
 rw [rM]
 simp only [qz pt f i v hp]
 split
 ·rename_i e
  rw [hs]
  simp only [Option.bind_some,ho,abV,Option.some.injEq,Prod.mk.injEq,true_and]
  have:∀ (pt:List Put),(∀ e∈pt,e.2.1=old.length+i→f e.1=none)→∀ p,gF pt f κ p=p:=by
   intro pt
   induction pt with
   | nil=>intro _ p;rfl
   | cons x r ih =>
    intro h p
    show gF r f κ (if x.2.1=κ∧(f x.1).isSome=true then x.2.2 else p)=p
    rw [if_neg (fun hx=>by rw [h x (abC ..) (hx.1.trans e)] at hx;exact absurd hx.2 (by simp))]
    exact ih (fun y hy=>h y (abF _ hy)) p
  exact this pt hn p
 ·rfl
def nO (kn:Nat→Option Bool) (i κ:Nat):List Put→Option OP
 | []=>none
 | (k,κ',q) :: r=>if k=i then (if (κ' == κ && r.all fun e=>e.1 != i && (e.2.1 != κ || kn e.1 == some false))=true then some q else none) else nO kn i κ r
theorem Dn {kn:Nat→Option Bool} (hk:∀ k b,kn k=some b→(f k).isSome=b) {κ:Nat}:∀ (pt:List Put) (q:OP),nO kn i κ pt=some q →
  (∀ p,gF pt (f.upd i v) κ p=q)∧(∀ κ',κ'≠κ→∀ p,gF pt (f.upd i v) κ' p=gF pt f κ' p)
 | [],_,h=>by cases h
 | (k,κ0,q0) :: r,q,h=>by
  unfold nO at h
  by_cases e:k=i
  ·rw [if_pos e] at h
   subst e
   split at h
   ·rename_i h1
    cases h
    simp only [Bool.and_eq_true,beq_iff_eq,abD,bne_iff_ne,Bool.or_eq_true] at h1
    obtain ⟨rfl,h2⟩:=h1
    have hn:oD r k=true:=by
     simp only [oD,abD,bne_iff_ne]
     exact fun e he=>(h2 e he).1
    have hid:∀ (r:List Put),(∀ e∈r,e.1≠k∧(e.2.1≠κ0∨kn e.1=some false))→∀ p,gF r f κ0 p=p:=by
     intro r
     induction r with
     | nil=>intro _ p;rfl
     | cons x r ih =>
      intro h p
      show gF r f κ0 (if x.2.1=κ0∧(f x.1).isSome=true then x.2.2 else p)=p
      rw [if_neg (fun hx=>by
       rcases (h x (abC ..)).2 with h3|h3
       ·exact h3 hx.1
       ·rw [hk _ _ h3] at hx;exact absurd hx.2 (by simp))]
      exact ih (fun y hy=>h y (abF _ hy)) p
    refine ⟨fun p=>?_,fun κ' hne p=>?_⟩
    ·show gF r (f.upd k v) κ0 (if κ0=κ0∧(f.upd k v k).isSome=true then q0 else p)=q0
     rw [qz r f k v hn,if_pos ⟨rfl,by simp [Fill.upd]⟩]
     exact hid r h2 q0
    ·show gF r (f.upd k v) κ' (if κ0=κ'∧(f.upd k v k).isSome=true then q0 else p)=gF r f κ' (if κ0=κ'∧(f k).isSome=true then q0 else p)
     rw [qz r f k v hn,if_neg (fun h=>hne h.1.symm),if_neg (fun h=>hne h.1.symm)]
   ·cases h
  ·rw [if_neg e] at h
   obtain ⟨h1,h2⟩:=Dn hk r q h
   have h3:f.upd i v k=f k:=by simp only [Fill.upd];rw [if_neg e]
   refine ⟨fun p=>h1 _,fun κ' hne p=>?_⟩
   show gF r (f.upd i v) κ' (if κ0=κ'∧(f.upd i v k).isSome=true then q0 else p)=_
   rw [h3]
   exact h2 κ' hne _
theorem LA {kn:Nat→Option Bool} (hk:∀ k b,kn k=some b→(f k).isSome=b) {κ g:Nat} {p q:OP} (hs:sp[i]? = some s) (ho:s.obj v=none) (hf:f i=none) (hp:nO kn i κ pt=some q) (hh:dY old sp pt f κ=some (g,p)) :
  dY old sp pt (f.upd i v)=fun κ'=>if κ'=κ then some (g,q) else dY old sp pt f κ':=by
 obtain ⟨h1,h2⟩:=Dn (v:=v) hk pt q hp
 have hb:∀ κ',jB old sp (f.upd i v) κ'=jB old sp f κ':=by
  intro κ'
  rw [rM]
  split
  ·rename_i e
   rw [e,wY _ _ _ _ hf,hs]
   simp [ho]
  ·rfl
 funext κ'
 by_cases e:κ'=κ
 ·subst e
  rw [if_pos rfl]
  unfold dY at hh ⊢
  rw [hb]
  cases hx:jB old sp f κ' with
  | none=>rw [hx] at hh;cases hh
  | some x =>
   rw [hx] at hh
   simp only [abV,Option.some.injEq,Prod.mk.injEq] at hh ⊢
   exact ⟨hh.1,h1 _⟩
 ·rw [if_neg e]
  unfold dY
  rw [hb]
  simp only [h2 κ' e]
end
end Go.Proofs.YthdgbgleklkaiaaGreatDoor
