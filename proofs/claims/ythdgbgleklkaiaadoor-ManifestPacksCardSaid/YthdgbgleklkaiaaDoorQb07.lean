/- A region walked once an operation, each operation told in one line. Condition: as each theorem says. -/

import Derived.Test.YthdgbgleklkaiaaDoorQb06
open Option renaming map_some→acD,bind_some→acI,getD_some→acJ
open List renaming getElem?_map→acE,all_eq_true→acF,getElem?_eq_getElem→acH
open Nat renaming le_refl→acG
set_option linter.unusedSimpArgs false
set_option linter.unusedVariables false
namespace Go.Proofs.YthdgbgleklkaiaaDoor
open Go.RowKit
inductive SV where
 | c (v:Value)
 | q (j off:Nat)
 | sl (j off n m:Nat)
 | r (j:Nat)
def eU:Option Value→Nat
 | some (.pointer (some a))=>a.block
 | some (.slice (some a) _ _)=>a.block
 | _=>0
def den (f:Fill):SV→Value
 | .c v=>v
 | .q j off => .pointer (some ⟨eU (f j),off,none⟩)
 | .sl j off n m => .slice (some ⟨eU (f j),off,none⟩) n m
 | .r j=>(f j).getD undef
def SV.ref:SV→Option Nat
 | .c _=>none
 | .q j _=>some j
 | .sl j _ _ _=>some j
 | .r j=>some j
inductive CL where
 | v (x:SV)
 | soft (S:Value→Prop)
 | new
 | mk (n:Nat)
 | w (S:World→Value→Prop) (h:∀ u u' v,Below u.heap.size u u'→S u v→S u' v)
def CL.notW:CL→Bool
 | .w _ _=>false
 | _=>true
theorem CL.no {c:CL} (h:c.notW=true) {X:(World→Value→Prop)→Prop}:∀ S h',c = .w S h'→X S:=fun S h' e=>by rw [e] at h;cases h
theorem Dt {kn:Nat→Option Bool} {i κ:Nat}:∀ {pt:List Put} {q:OP},nP kn i κ pt=some q→oF pt i=false
 | [],_,h=>by cases h
 | e :: r,q,h=>by
  unfold nP at h
  show (e.1 != i && oF r i)=false
  by_cases c:e.1=i
  ·simp [c]
  ·rw [if_neg c] at h
   rw [Dt h,Bool.and_false]
def CL.ok (f:Fill) (v:Value):CL→Prop
 | .v x=>v=den f x
 | .soft S=>S v
 | .new=>∃ g:Nat,v = .pointer (some ⟨g,0,none⟩)
 | .mk n=>∃ g:Nat,v = .slice (some ⟨g,0,none⟩) n n
 | .w _ _=>True
def CL.ref:CL→Option Nat
 | .v x=>x.ref
 | _=>none
def CL.sv (j:Nat):CL→SV
 | .v x=>x
 | .soft _ => .r j
 | .new => .q j 0
 | .mk n => .sl j 0 n n
 | .w _ _ => .r j
def CL.pU:CL→Bool
 | .new=>true
 | .mk _=>true
 | _=>false
structure Sy where
 cl:CL
 obj:Option OP:=none
def pK (p:OP) (v:Value):Option (Nat×OP):=match v with
 | .pointer (some a)=>some (a.block,p)
 | .slice (some a) _ _=>some (a.block,p)
 | _=>none
def Sy.sp (s:Sy):Sp:=⟨fun _=>True,fun v=>match s.obj with|some p=>pK p v|none=>none⟩
def uZ (l:List Oper) (sy:List Sy):Bool:=(List.range sy.length).all fun i=>match (sy[i]?).bind (·.cl.ref) with
 | some j=>((JV l).getD i 0).testBit j
 | none=>true
structure SJ (T:Nat→Prop) (w:World) (old:List (Nat×OP)) (sy:List Sy) (pt:List Put) (f:Fill) (u:World):Prop where
 val:∀ i v,f i=some v→∃ s,sy[i]? = some s∧s.cl.ok f v
 mem:Holds T w u (dV old (sy.map Sy.sp) pt f)
 wld:∀ i v s S h,f i=some v→sy[i]? = some s→s.cl = .w S h→(∀ e∈pt,f e.1=none)→S u v
theorem om {l:List Oper} {i j:Nat} (h:((JV l).getD i 0).testBit j=true):Ahead l i j:=vU l [] [] rfl rfl (fun i j h=>by simp at h) i j h
theorem den_upd {f:Fill} {i:Nat} {v:Value} {x:SV} (h:x.ref≠some i):den (f.upd i v) x=den f x:=by
 cases x with
 | c v=>rfl
 | q j off=>simp only [den,Fill.upd];rw [if_neg (fun e=>h (by rw [SV.ref,e]))]
 | sl j off n m=>simp only [den,Fill.upd];rw [if_neg (fun e=>h (by rw [SV.ref,e]))]
 | r j=>simp only [den,Fill.upd];rw [if_neg (fun e=>h (by rw [SV.ref,e]))]
theorem Wq {f:Fill} {i:Nat} {v v':Value} {c:CL} (h:c.ref≠some i):c.ok (f.upd i v) v'↔c.ok f v':=by
 cases c with
 | v x=>simp only [CL.ok];rw [den_upd (fun e=>h (by rw [CL.ref,e]))]
 | soft S=>exact Iff.rfl
 | new=>exact Iff.rfl
 | mk n=>exact Iff.rfl
 | w S h=>exact Iff.rfl
theorem UO {l:List Oper} {sy:List Sy} (h:uZ l sy=true) {i j:Nat} {s:Sy} (hs:sy[i]? = some s) (hr:s.cl.ref=some j):Ahead l i j:=by
 have h1:=List.all_eq_true.1 h i (List.mem_range.2 (List.getElem?_eq_some_iff.1 hs).1)
 rw [hs] at h1
 simp only [acI,hr] at h1
 exact om h1
section
variable {P:Program} {Q:Exit→Act→World→Prop} {T:Nat→Prop} {w:World} {l:List Oper} {old:List (Nat×OP)} {sy:List Sy} {pt:List Put} {a:Act}
theorem SJ.upd {f:Fill} {u u':World} (hwf:uZ l sy=true) (h:SJ T w old sy pt f u) (hc:Closed l f) {i:Nat} (hi:f i=none) (hu:∀ j,dB l i j=true→(f j).isSome=true) {s:Sy} (hs:sy[i]? = some s) {v:Value} (hv:s.cl.ok f v)
  (hm:Holds T w u' (dV old (sy.map Sy.sp) pt (f.upd i v))) (hb:oF pt i=true→Below u.heap.size u u') (hw:∀ S h,s.cl = .w S h→S u' v):SJ T w old sy pt (f.upd i v) u':=by
 refine ⟨fun k v' hk=>?_,hm,fun k v' s' S h' hk hs' hc' hno=>?_⟩
 rotate_left
 ·by_cases e:k=i
  ·subst e
   simp only [Fill.upd,if_pos,Option.some.injEq] at hk
   subst hk
   rw [hs] at hs'
   cases hs'
   exact hw S h' hc'
  ·simp only [Fill.upd] at hk
   rw [if_neg e] at hk
   have hne:∀ x∈pt,x.1≠i∧f x.1=none:=fun x hx=>by
    have h1:=hno x hx
    unfold Fill.upd at h1
    by_cases c:x.1=i
    ·rw [if_pos c] at h1;cases h1
    ·rw [if_neg c] at h1;exact ⟨c,h1⟩
   exact h' _ _ _ (hb (by simp only [oF,acF,bne_iff_ne];exact fun x hx=>(hne x hx).1)) (h.wld k v' s' S h' hk hs' hc' fun x hx=>(hne x hx).2)
 by_cases e:k=i
 ·subst e
  simp only [Fill.upd,if_pos,Option.some.injEq] at hk
  subst hk
  refine ⟨s,hs,(Wq (fun hr=>?_)).2 hv⟩
  have:=(UO hwf hs hr).up hc hu
  rw [hi] at this
  cases this
 ·simp only [Fill.upd] at hk
  rw [if_neg e] at hk
  obtain ⟨s',hs',hv'⟩:=h.val k v' hk
  refine ⟨s',hs',(Wq (fun hr=>?_)).2 hv'⟩
  have:=(UO hwf hs' hr).some hc (by rw [hk];rfl)
  rw [hi] at this
  cases this
def abB (l:List Oper) (s:Tmp):Option Nat:=l.findIdx? fun o=>o.dst == some s
def sev (l:List Oper) (sy:List Sy) (a:Act) (f:Fill):Operand→Value
 | .tmp s=>match abB l s with
  | some j=>match sy[j]? with
   | some y=>den f (y.cl.sv j)
   | none=>undef
  | none=>a.tmps.getD s undef
 | x=>a.eval x
def iD (l:List Oper) (i:Nat) (x:Operand):Bool:=match x with
 | .tmp s=>match abB l s with
  | some j=>((JV l).getD i 0).testBit j
  | none=>true
 | _=>true
theorem jl {f:Fill} {b:Act} {u:World} (h:SJ T w old sy pt f u) (hc:Closed l f) {i:Nat} (hu:∀ j,dB l i j=true→(f j).isSome=true) (hs:uS l f a b) {x:Operand} (hx:iD l i x=true):b.eval x=sev l sy a f x:=by
 cases x with
 | tmp s =>
  simp only [iD] at hx
  simp only [sev]
  cases hd:abB l s with
  | none =>
   rw [hd] at hx
   simp only
   refine hs.old s ?_
   rw [acF]
   intro o ho
   have:=List.findIdx?_eq_none_iff.1 hd o ho
   simpa using this
  | some j =>
   rw [hd] at hx
   simp only at hx ⊢
   obtain ⟨v,hv⟩:=sE ((om hx).up hc hu)
   obtain ⟨s',hs',hok⟩:=h.val j v hv
   rw [hs']
   simp only
   obtain ⟨hlt,h1, -⟩:=List.findIdx?_eq_some_iff_getElem.1 hd
   have e:b.eval (.tmp s)=v:=hs.val j s (by rw [acH hlt];simpa using h1) hv
   rw [e]
   cases hcl:s'.cl with
   | v y=>rw [hcl] at hok;exact hok
   | soft S=>simp [CL.sv,den,hv]
   | new=>rw [hcl] at hok;obtain ⟨g,rfl⟩:=hok;simp [CL.sv,den,hv,eU]
   | mk n=>rw [hcl] at hok;obtain ⟨g,rfl⟩:=hok;simp [CL.sv,den,hv,eU]
   | w S h=>simp [CL.sv,den,hv]
 | const v=>rfl
 | global g=>rfl
 | func g=>rfl
def adr (old:List (Nat×OP)) (f:Fill) (κ:Nat):Nat:=if κ < old.length then (old.getD κ (0,fun _=>False)).1 else eU (f (κ - old.length))
def bp (old:List (Nat×OP)) (sy:List Sy) (κ:Nat):Option OP:=if κ < old.length then (old[κ]?).map (·.2) else (sy[κ - old.length]?).bind (·.obj)
def cont (l:List Oper) (old:List (Nat×OP)) (sy:List Sy) (pt:List Put) (i κ:Nat):Option OP:=(bp old sy κ).bind fun p=>DJ (fun k=>if k=i then some false else know l i k) pt κ p
def uy (l:List Oper) (old:List (Nat×OP)) (sy:List Sy) (i κ:Nat):Bool:=decide (κ < old.length) || (((JV l).getD i 0).testBit (κ - old.length) && ((sy[κ - old.length]?).map fun s=>s.cl.pU).getD false)
theorem qR {f:Fill} {u:World} (h:SJ T w old sy pt f u) (hc:Closed l f) {i:Nat} (hi:f i=none) (hu:∀ j,dB l i j=true→(f j).isSome=true) {κ:Nat} {p:OP} (hp:cont l old sy pt i κ=some p) (hl:uy l old sy i κ=true) :
  dV old (sy.map Sy.sp) pt f κ=some (adr old f κ,p):=by
 obtain ⟨p0,hb,hk⟩:=Option.bind_eq_some_iff.1 hp
 have hput:gF pt f κ p0=p:=by
  refine uE (fun k b hk=>?_) pt κ p0 p hk
  by_cases e:k=i
  ·rw [if_pos e] at hk;cases hk;rw [e,hi];rfl
  ·rw [if_neg e] at hk;exact Fj hc hi hu hk
 simp only [uy,Bool.or_eq_true,decide_eq_true_eq,Bool.and_eq_true] at hl
 unfold bp at hb
 unfold dV jr adr
 by_cases hlt:κ < old.length
 ·rw [if_pos hlt] at hb ⊢
  rw [if_pos hlt]
  rw [acH hlt] at hb ⊢
  simp only [acD,Option.some.injEq] at hb ⊢
  rw [List.getD_eq_getElem?_getD,acH hlt,acJ,hb,hput]
 ·rw [if_neg hlt] at hb ⊢
  rw [if_neg hlt]
  obtain ⟨ha,hcl⟩:=hl.resolve_left hlt
  obtain ⟨s,hs,ho⟩:=Option.bind_eq_some_iff.1 hb
  obtain ⟨v,hv⟩:=sE ((om ha).up hc hu)
  obtain ⟨s',hs',hok⟩:=h.val _ v hv
  rw [hs] at hs'
  cases hs'
  rw [hv,acE,hs]
  have hcl0:=hcl
  simp only [acD,Sy.sp,ho]
  cases hx:s.cl with
  | v x=>simp [hs,hx,CL.pU] at hcl0
  | soft S=>simp [hs,hx,CL.pU] at hcl0
  | w S h=>simp [hs,hx,CL.pU] at hcl0
  | new =>
   rw [hx] at hok
   obtain ⟨g,rfl⟩:=hok
   simp only [pK,acD,eU,hput]
  | mk n =>
   rw [hx] at hok
   obtain ⟨g,rfl⟩:=hok
   simp only [pK,acD,eU,hput]
abbrev vX (P:Program) (Q:Exit→Act→World→Prop) (l:List Oper) (T:Nat→Prop) (w:World) (old:List (Nat×OP)) (sy:List Sy) (pt:List Put) (a:Act) (i:Nat) (o:Oper):Prop:=nA P Q l (fun f u=>SJ T w old sy pt f u) a i o
def gM (sy:List Sy) (pt:List Put) (i:Nat):Bool:=(match (sy[i]?).map (·.obj) with|some none=>true|_=>false) && oF pt i
theorem kY {f:Fill} {i:Nat} (hi:f i=none) (hq:gM sy pt i=true) (v:Value):dV old (sy.map Sy.sp) pt (f.upd i v)=dV old (sy.map Sy.sp) pt f:=by
 simp only [gM,Bool.and_eq_true] at hq
 obtain ⟨h1,h2⟩:=hq
 cases hs:sy[i]? with
 | none=>rw [hs] at h1;simp at h1
 | some s =>
  rw [hs] at h1
  have ho:s.obj=none:=by
   cases hx:s.obj with
   | none=>rfl
   | some p=>rw [acD,hx] at h1;simp at h1
  exact IU (s:=s.sp) (by rw [acE,hs];rfl) (by simp [Sy.sp,ho]) hi h2
theorem fP {o:Oper} {b:Act} (hg:o.guard=none):Region.wanted o (yielded l.toArray b.tmps)=true:=by simp [Region.wanted,hg]
theorem EF {i:Nat} {o:Oper} {s:Sy} (hwf:uZ l sy=true) (hg:o.guard=none) (hs:sy[i]? = some s) (hq:gM sy pt i=true) (hnw:s.cl.notW=true)
  (h:∀ (f:Fill) (b:Act) (u:World),SJ T w old sy pt f u→Closed l f→f i=none→(∀ j,dB l i j=true→(f j).isSome=true)→uS l f a b→∃ v,(execOp b.eval o).run P u = .ok (.value v) u∧s.cl.ok f v):vX P Q l T w old sy pt a i o:=by
 intro f b u K hJ hf hc hu jc hK
 rw [if_pos (fP hg)]
 obtain ⟨v,hrun,hok⟩:=h f b u hJ hc hf hu jc
 unfold Oper.wp
 rw [hrun]
 refine hK v u (hJ.upd hwf hc hf hu hs hok ?_ (fun _=>Below.refl _ _) (CL.no hnw))
 rw [kY hf hq]
 exact hJ.mem
def easy:Op→Bool
 | .move _ | .assign _ | .fieldAddr _ _ _ | .indexAddr _ _ _ | .extract _ _ | .build _ _ | .binOp _ _ _ _ _ | .unOp _ _ _ | .convert _ _ _ | .slice _ _ _ _ _ | .index _ _ _ | .field _ _ _ | .sliceToArrayPointer _ _ | .pick _ _ _=>true
 | _=>false
theorem execOp_congr {ρ ρ':Operand→Value} {o:Oper} (he:easy o.op=true) (h:∀ x∈o.op.operands.toList,ρ x=ρ' x):execOp ρ o=execOp ρ' o:=by
 unfold execOp
 cases hop:o.op with
 | move x=>rw [hop] at h;simp only [h x (by simp [Op.operands])]
 | assign x=>rw [hop] at h;simp only [h x (by simp [Op.operands])]
 | fieldAddr t x n=>rw [hop] at h;simp only [h x (by simp [Op.operands])]
 | indexAddr t x y=>rw [hop] at h;simp only [h x (by simp [Op.operands]),h y (by simp [Op.operands])]
 | extract x n=>rw [hop] at h;simp only [h x (by simp [Op.operands])]
 | binOp k t x y t2=>rw [hop] at h;simp only [h x (by simp [Op.operands]),h y (by simp [Op.operands])]
 | unOp k t x=>rw [hop] at h;simp only [h x (by simp [Op.operands])]
 | convert t t2 x=>rw [hop] at h;simp only [h x (by simp [Op.operands])]
 | index t x y=>rw [hop] at h;simp only [h x (by simp [Op.operands]),h y (by simp [Op.operands])]
 | field t x n=>rw [hop] at h;simp only [h x (by simp [Op.operands])]
 | sliceToArrayPointer t x=>rw [hop] at h;simp only [h x (by simp [Op.operands])]
 | pick x y z=>rw [hop] at h;simp only [h x (by simp [Op.operands]),h y (by simp [Op.operands]),h z (by simp [Op.operands])]
 | build t ps =>
  rw [hop] at h
  have e:(ps.map fun (p:Nat×Operand)=>(p.1,ρ p.2))=ps.map fun (p:Nat×Operand)=>(p.1,ρ' p.2):=by
   apply Array.map_congr_left
   intro p hp
   rw [h p.2 (by simp only [Op.operands];exact List.mem_map.2 ⟨p,by simpa using hp,rfl⟩)]
  simp only [e]
 | slice t x lo hi mx =>
  rw [hop] at h
  have e1:lo.map ρ=lo.map ρ':=by cases lo with|none=>rfl|some y=>simp only [acD,h y (by simp [Op.operands])]
  have e2:hi.map ρ=hi.map ρ':=by cases hi with|none=>rfl|some y=>simp only [acD,h y (by simp [Op.operands])]
  have e3:mx.map ρ=mx.map ρ':=by cases mx with|none=>rfl|some y=>simp only [acD,h y (by simp [Op.operands])]
  simp only [h x (by simp [Op.operands]),e1,e2,e3]
 | _=>simp [hop,easy] at he
theorem O1 {i:Nat} {o:Oper} {s:Sy} {x:SV} (hwf:uZ l sy=true) (hg:o.guard=none) (hs:sy[i]? = some s) (hq:gM sy pt i=true) (hcl:s.cl = .v x) (he:(easy o.op && o.op.operands.toList.all (iD l i))=true)
  (h:∀ (f:Fill) (u:World),(execOp (sev l sy a f) o).run P u = .ok (.value (den f x)) u):vX P Q l T w old sy pt a i o:=by
 simp only [Bool.and_eq_true,acF] at he
 refine EF hwf hg hs hq (by rw [hcl];rfl) fun f b u hJ hc hf hu jc=>⟨den f x,?_,by rw [hcl];rfl⟩
 rw [execOp_congr he.1 (fun y hy=>jl hJ hc hu jc (he.2 y hy))]
 exact h f u
theorem zC {i:Nat} {o:Oper} {s:Sy} (F:FuncId) (xs:List Operand) (ts:Array TypeId) (hwf:uZ l sy=true) (hg:o.guard=none) (hs:sy[i]? = some s) (hq:gM sy pt i=true)
  (ho:o.op = .call { callee := .value (.func F),args:=xs.toArray,argTypes:=ts }) (hr:xs.all (iD l i)=true) (hF:∀ (args:Array Value) (u:World),(callFunc F args).run P u = .ok (.enter F args) u)
  (h:∀ (f:Fill) (u:World),SJ T w old sy pt f u→(∀ j,((JV l).getD i 0).testBit j=true→∃ v s',f j=some v∧sy[j]? = some s'∧s'.cl.ok f v)→Calls P F (xs.map (sev l sy a f)).toArray u (fun e w'=>∃ v,e = .returned v∧s.cl.ok f v∧Below u.heap.size u w'∧∀ S h,s.cl = .w S h→S w' v)):vX P Q l T w old sy pt a i o:=by
 intro f b u K hJ hf hc hu jc hK
 have hv:xs.map b.eval=xs.map (sev l sy a f):=List.map_congr_left fun y hy=>jl hJ hc hu jc (List.all_eq_true.1 hr y hy)
 rw [if_pos (fP hg)]
 have h0:=fQ (P:=P) (Q:=Q) (ops := #[]) (o:=o) (b:=b) (u:=u) (K:=K) (E:=True) hg F xs ts _ ho hv hF ?_
 ·rwa [if_pos (by simp [Region.wanted,hg])] at h0
 ·refine Calls.mono (h f u hJ fun j hj=>?_) ?_
  ·obtain ⟨v,hv⟩:=sE ((om hj).up hc hu)
   obtain ⟨s',hs',hok⟩:=hJ.val j v hv
   exact ⟨v,s',hv,hs',hok⟩
  ·rintro e w' ⟨v,rfl,hok,hb,hw⟩
   refine ⟨v,rfl,hK v w' (hJ.upd hwf hc hf hu hs hok ?_ (fun _=>hb) hw)⟩
   rw [kY hf hq]
   exact hJ.mem.below hb
def Np (l:List Oper) (old:List (Nat×OP)) (pt:List Put) (i:Nat):Bool:=oF pt i && pt.all fun e=>e.2.1 != old.length+i || ((JV l).getD e.1 0).testBit i
theorem Vp {i:Nat} {o:Oper} {s:Sy} {p:OP} {t:TypeId} {cs:Array Value} (hwf:uZ l sy=true) (hg:o.guard=none) (hs:sy[i]? = some s) (hcl:s.cl = .new) (Lg:s.obj=some p) (hB:Np l old pt i=true)
  (ho:o.op = .alloc t) (hz:∀ u,(zeroValue t).run P u = .ok (.agg cs) u) (hp:p (.cells cs t (0,0))):vX P Q l T w old sy pt a i o:=by
 intro f b u K hJ hf hc hu jc hK
 simp only [Np,Bool.and_eq_true,acF,Bool.or_eq_true,bne_iff_ne] at hB
 have h0:=bg (P:=P) (Q:=Q) (ops := #[]) (o:=o) (a:=b) (w:=u) (K:=K) (E:=True) hg t ho cs (hz u) ?_
 ·rw [if_pos (fP hg)]
  rwa [if_pos (by simp [Region.wanted,hg])] at h0
 ·refine hK _ _ (hJ.upd hwf hc hf hu hs (by rw [hcl];exact ⟨_,rfl⟩) ?_ (fun _=>(Below.refl _ u).alloc (acG _) _) (CL.no (by rw [hcl];rfl)))
  rw [Lf (s:=s.sp) (g:=u.heap.size) (p:=p) (by rw [acE,hs];rfl) (by simp [Sy.sp,Lg,pK]) hB.1 (fun e he e2=>?_)]
  ·exact hJ.mem.new _ ((Below.refl _ u).alloc (acG _) _) (acG _) (aG u _) hp
  ·rcases hB.2 e he with h1|h1
   ·exact absurd e2 h1
   ·exact (om h1).down hc hf
theorem sy_load {i:Nat} {o:Oper} {s:Sy} {p:OP} {ty:TypeId} {x:Operand} {k:IntKind} {d:TypeDesc} (κ off n:Nat) (hwf:uZ l sy=true) (hg:o.guard=none) (hs:sy[i]? = some s) (hq:gM sy pt i=true) (hnw:s.cl.notW=true)
  (ho:o.op = .load ty x) (hr:iD l i x=true) (hl:uy l old sy i κ=true) (hx:∀ f,sev l sy a f x = .pointer (some ⟨adr old f κ,off,none⟩)) (hc':cont l old sy pt i κ=some p)
  (hu':P.underlying ty=some d) (hd:d.isRow=true) (hi:(P.info? ty).map (·.size)=some n)
  (h:∀ (f:Fill) (o:Obj),p o→∃ (cs:Array Value) (t:TypeId) (fr:Nat×Nat) (xs:List Int),o = .cells cs t fr∧xs.length=n∧(cs.toList.drop off).take xs.length=xs.map (Value.int k)∧s.cl.ok f (.agg (arr k xs))):vX P Q l T w old sy pt a i o:=by
 intro f b u K hJ hf hc hu jc hK
 have hh:=qR hJ hc hf hu hc' hl
 obtain ⟨⟨ob,JR,hpo⟩, -⟩:=hJ.mem.mem κ _ _ hh
 obtain ⟨cs,t,fr,xs,rfl,hn,hpart,hok⟩:=h f ob hpo
 have h0:=eZ (P:=P) (Q:=Q) (ops := #[]) (o:=o) (a:=b) (w:=u) (K:=K) (E:=True) hg ty x ho _ off cs t fr d JR ((jl hJ hc hu jc hr).trans (hx f)) k xs hpart hu' hd (by rw [hn];exact hi) ?_
 ·rw [if_pos (fP hg)]
  rwa [if_pos (by simp [Region.wanted,hg])] at h0
 ·refine hK _ _ (hJ.upd hwf hc hf hu hs hok ?_ (fun _=>Below.refl _ _) (CL.no hnw))
  rw [kY hf hq]
  exact hJ.mem
theorem Hl {i:Nat} {o:Oper} {s:Sy} {p q:OP} {ty t:TypeId} {x y:Operand} (κ n:Nat) (hwf:uZ l sy=true) (hg:o.guard=none) (hs:sy[i]? = some s) (Lg:s.obj=none) (hcl:s.cl = .soft fun _=>True)
  (ho:o.op = .store ty x y) (hr:(iD l i x && iD l i y)=true) (hl:uy l old sy i κ=true) (hx:∀ f,sev l sy a f x = .pointer (some ⟨adr old f κ,0,none⟩)) (hc':cont l old sy pt i κ=some p) (hpt:nP (know l i) i κ pt=some q)
  (hb:∀ o,p o→∃ cs,o = .cells cs t (0,0)∧cs.size=n) (hi:(P.info? ty).map (·.size)=some n)
  (hy:∀ (f:Fill),(∀ j,((JV l).getD i 0).testBit j=true→∃ v s',f j=some v∧sy[j]? = some s'∧s'.cl.ok f v)→∃ ds,sev l sy a f y = .agg ds∧ds.size=n∧ds.all (·.oneCell')=true∧q (.cells ds t (0,0))):vX P Q l T w old sy pt a i o:=by
 intro f b u K hJ hf hc hu jc hK
 simp only [Bool.and_eq_true] at hr
 have hh:=qR hJ hc hf hu hc' hl
 obtain ⟨⟨ob,JR,hpo⟩, -⟩:=hJ.mem.mem κ _ _ hh
 obtain ⟨cs,rfl,hn⟩:=hb ob hpo
 obtain ⟨ds,hds,hsz,hone,hq⟩:=hy f fun j hj=>by
  obtain ⟨v,hv⟩:=sE ((om hj).up hc hu)
  obtain ⟨s',hs',hok⟩:=hJ.val j v hv
  exact ⟨v,s',hv,hs',hok⟩
 have h0:=aH (P:=P) (Q:=Q) (ops := #[]) (o:=o) (a:=b) (w:=u) (K:=K) (E:=True) hg ty x y ho _ cs ds t JR ((jl hJ hc hu jc hr.1).trans (hx f)) ((jl hJ hc hu jc hr.2).trans hds) (by rw [hsz,hn]) (by rw [hsz];exact hi) hone ?_
 ·rw [if_pos (fP hg)]
  rwa [if_pos (by simp [Region.wanted,hg])] at h0
 ·intro w' h1 h2 _
  refine hK _ _ (hJ.upd hwf hc hf hu hs (by rw [hcl];trivial) ?_ (fun e=>by rw [Dt hpt] at e;cases e) (CL.no (by rw [hcl];rfl)))
  rw [Le (s:=s.sp) (kn:=know l i) (fun k b hk=>Fj hc hf hu hk) (by rw [acE,hs];rfl) (by simp [Sy.sp,Lg]) hf hpt hh]
  exact hJ.mem.put κ hh h2 h1 hq
def CV (g:Nat→Nat) (x:Nat→Value):SV→Value
 | .c v=>v
 | .q j off => .pointer (some ⟨g j,off,none⟩)
 | .sl j off n m => .slice (some ⟨g j,off,none⟩) n m
 | .r j=>x j
def Sy.at (g:Nat→Nat) (x:Nat→Value) (k:Nat) (s:Sy):Value:=match s.cl with
 | .v y=>CV g x y
 | .soft _=>x k
 | .new => .pointer (some ⟨g k,0,none⟩)
 | .mk n => .slice (some ⟨g k,0,none⟩) n n
 | .w _ _=>x k
def lay (g:Nat→Nat) (x:Nat→Value):List Oper→List Sy→Nat→Act→Act
 | o :: l,s :: sy,k,a=>lay g x l sy (k+1) (a.put o.dst (s.at g x k))
 | _,_,_,a=>a
def vO (pt:List Put) (κ:Nat) (p:OP):OP:=pt.foldl (fun p e=>if e.2.1=κ then e.2.2 else p) p
def DZ (old:List (Nat×OP)) (sy:List Sy) (pt:List Put) (g:Nat→Nat) (κ:Nat):Option (Nat×OP) :=
 if κ < old.length then (old[κ]?).map fun e=>(e.1,vO pt κ e.2) else ((sy[κ - old.length]?).bind (·.obj)).map fun p=>(g (κ - old.length),vO pt κ p)
def endB (l:List Oper) (sy:List Sy) (pt:List Put):Bool:=sy.length == l.length && (sy.all fun s=>s.obj.isNone || s.cl.pU) && pt.all fun e=>decide (e.1 < l.length)
theorem KU {g:Nat→Nat} {x:Nat→Value} {f:Fill}:∀ (l:List Oper) (sy:List Sy) (k:Nat) (a:Act),sy.length=l.length→(∀ i s,sy[i]? = some s→f (k+i)=some (s.at g x (k+i)))→laid l k f a=lay g x l sy k a
 | [],[],_,_,_,_=>rfl
 | [],_ :: _,_,_,h,_=>by simp at h
 | _ :: _,[],_,_,h,_=>by simp at h
 | o :: l,s :: sy,k,a,h,hf=>by
  have h0:=hf 0 s rfl
  simp only [Nat.add_zero] at h0
  simp only [laid,lay,h0]
  exact KU l sy (k+1) _ (by simpa using h) (fun i s' hs'=>by rw [show k+1+i=k+(i+1) by omega];exact hf (i+1) s' hs')
theorem Qs {f:Fill} {y:SV}:den f y=CV (fun j=>eU (f j)) (fun j=>(f j).getD undef) y:=by cases y <;> rfl
theorem gP {id:Nat} {u0:World} (hm:P.follows .mixedOrders=true) (hB:(DI l a.tmps.size && Js l && endB l sy pt)=true) (hwf:uZ l sy=true)
  (h0:Holds T w u0 fun κ=>old[κ]?) (hs:uZ l sy=true→dM P Q l (fun f u=>SJ T w old sy pt f u) a l 0)
  (hend:∀ (g:Nat→Nat) (x:Nat→Value) (u:World),(∀ (k:Nat) (s:Sy) (S:Value→Prop),sy[k]? = some s→s.cl = .soft S→S (x k))→Holds T w u (DZ old sy pt g)→Q .normal (lay g x l sy 0 a) u):(Code.region id l.toArray true).wp P Q a u0:=by
 rw [Bool.and_eq_true] at hB
 simp only [endB,Bool.and_eq_true,beq_iff_eq,acF,decide_eq_true_eq] at hB
 obtain ⟨hB1,⟨hlen,Lg⟩,hpt⟩:=hB
 refine pq (fun f u=>SJ T w old sy pt f u) hm (by rw [hB1.1,hB1.2];rfl) ⟨fun i v h=>by simp at h,?_,fun i v s S h e=>by simp at e⟩ (hs hwf) fun f u hall hJ=>?_
 ·have e:dV old (sy.map Sy.sp) pt (fun _=>none)=fun κ=>old[κ]? := by
   have hn:∀ κ p,gF pt (fun _=>none) κ p=p:=by
    intro κ
    clear hpt hs hend
    induction pt with
    | nil=>intro p;rfl
    | cons e r ih =>
     intro p
     show gF r (fun _=>none) κ (if e.2.1=κ∧(none:Option Value).isSome=true then e.2.2 else p)=p
     rw [if_neg (by simp)]
     exact ih p
   funext κ
   unfold dV jr
   by_cases hlt:κ < old.length
   ·rw [if_pos hlt]
    simp only [hn]
    cases old[κ]? <;> rfl
   ·rw [if_neg hlt,List.getElem?_eq_none (by omega:old.length≤κ)]
    split <;> simp_all
  rw [e]
  exact h0.drew
 ·have hcl:∀ k s,sy[k]? = some s→∃ v,f k=some v∧s.cl.ok f v:=by
   intro k s hk
   obtain ⟨v,hv⟩:=sE (hall k (by rw [← hlen];exact (List.getElem?_eq_some_iff.1 hk).1))
   obtain ⟨s',hs',hok⟩:=hJ.val k v hv
   rw [hk] at hs'
   cases hs'
   exact ⟨v,hv,hok⟩
  rw [KU (g:=fun j=>eU (f j)) (x:=fun j=>(f j).getD undef) l sy 0 a hlen fun i s hi=>?_]
  ·refine hend _ _ _ (fun k s S hk hc=>?_) ?_
   ·obtain ⟨v,hv,hok⟩:=hcl k s hk
    rw [hc] at hok
    simp only [hv,acJ]
    exact hok
   ·have e:dV old (sy.map Sy.sp) pt f=DZ old sy pt (fun j=>eU (f j)):=by
     have hp:∀ κ p,gF pt f κ p=vO pt κ p:=by
      intro κ
      unfold gF vO
      clear hJ hs hend
      induction pt with
      | nil=>intro p;rfl
      | cons e r ih =>
       intro p
       simp only [List.foldl_cons]
       have:=hall e.1 (hpt e (List.mem_cons_self ..))
       have e1:∀ p,(if e.2.1=κ∧(f e.1).isSome=true then e.2.2 else p)=if e.2.1=κ then e.2.2 else p:=by
        intro p
        by_cases h1:e.2.1=κ
        ·rw [if_pos ⟨h1,this⟩,if_pos h1]
        ·rw [if_neg (fun h=>h1 h.1),if_neg h1]
       rw [e1]
       exact ih (fun x hx=>hpt x (List.mem_cons_of_mem _ hx)) _
     funext κ
     unfold dV jr DZ
     by_cases hlt:κ < old.length
     ·rw [if_pos hlt,if_pos hlt]
      simp only [hp]
     ·rw [if_neg hlt,if_neg hlt,acE]
      cases hk:sy[κ - old.length]? with
      | none=>rfl
      | some s =>
       obtain ⟨v,hv,hok⟩:=hcl _ _ hk
       simp only [acD,hv,acI,Sy.sp]
       cases ho:s.obj with
       | none=>rfl
       | some p =>
        have h1:=Lg s (List.mem_of_getElem? hk)
        rw [ho] at h1
        simp only [Option.isNone_some,Bool.false_or] at h1
        cases hx:s.cl with
        | v y=>simp [hx,CL.pU] at h1
        | soft S=>simp [hx,CL.pU] at h1
        | w S h=>simp [hx,CL.pU] at h1
        | new =>
         rw [hx] at hok
         obtain ⟨g,rfl⟩:=hok
         simp only [pK,acD,eU,hp]
        | mk n =>
         rw [hx] at hok
         obtain ⟨g,rfl⟩:=hok
         simp only [pK,acD,eU,hp]
    rw [← e]
    exact hJ.mem
  ·rw [Nat.zero_add]
   obtain ⟨v,hv,hok⟩:=hcl i s hi
   rw [hv]
   unfold Sy.at
   cases hx:s.cl with
   | v y=>rw [hx] at hok;simp only;rw [← Qs];exact congrArg some hok
   | soft S=>simp [hv]
   | w S h=>simp [hv]
   | new=>rw [hx] at hok;obtain ⟨g,rfl⟩:=hok;simp [hv,eU]
   | mk n=>rw [hx] at hok;obtain ⟨g,rfl⟩:=hok;simp [hv,eU]
end
abbrev Cr (cs:Array Value) (t:TypeId):OP:=fun o=>o = .cells cs t (0,0)
abbrev Yv (v:Value):Sy:=⟨.v (.c v),none⟩
abbrev Yr (k:IntKind) (xs:List Int):Sy:=⟨.v (.c (.agg (arr k xs))),none⟩
abbrev Yp (g off:Nat):Sy:=⟨.v (.c (.pointer (some ⟨g,off,none⟩))),none⟩
abbrev Yq (j off:Nat):Sy:=⟨.v (.q j off),none⟩
abbrev Yn (cs:Array Value) (t:TypeId):Sy:=⟨.new,some (Cr cs t)⟩
abbrev Y0:Sy:=⟨.soft fun _=>True,none⟩
def Dx (L:List (Nat×Array Value×TypeId)):List (Nat×OP):=L.map fun e=>(e.1,Cr e.2.1 e.2.2)
theorem bM.holds {w u:World} {L:List (Nat×Array Value×TypeId)} (h:bM w u L):Holds (fun _=>False) w u fun κ=>(Dx L)[κ]? := by
 have hx:∀ (i g:Nat) (p:OP),(Dx L)[i]? = some (g,p)→∃ c t,L[i]? = some (g,c,t)∧p=Cr c t:=by
  intro i g p hi
  simp only [Dx,acE,Option.map_eq_some_iff,Prod.mk.injEq] at hi
  obtain ⟨⟨g',c,t⟩,h1,rfl,rfl⟩:=hi
  exact ⟨c,t,h1,rfl⟩
 refine ⟨fun i g p hi=>?_,fun i j g p q hi hj=>?_,Kept.of_below h.below⟩
 ·obtain ⟨c,t,h1,rfl⟩:=hx i g p hi
  obtain ⟨h2,h3⟩:=h.mem i g c t h1
  exact ⟨⟨_,h2,rfl⟩, .inr h3⟩
 ·obtain ⟨c,t,h1,rfl⟩:=hx i g p hi
  obtain ⟨c',t',h2,rfl⟩:=hx j g q hj
  exact h.inj i j g c t c' t' h1 h2
theorem Holds.blk {w u:World} {L:Nat→Option (Nat×OP)} (h:Holds (fun _=>False) w u L) (ks:List Nat) (l:List (Nat×Array Value×TypeId)) (hd:ks.Nodup) (hl:ks.map L=l.map fun e=>some (e.1,Cr e.2.1 e.2.2)):bM w u l:=by
 have hlen:ks.length=l.length:=by have:=congrArg List.length hl;simpa using this
 have hx:∀ (i g:Nat) (c:Array Value) (t:TypeId),l[i]? = some (g,c,t)→∃ κ,ks[i]? = some κ∧L κ=some (g,Cr c t):=by
  intro i g c t hi
  have h1:(ks.map L)[i]? = some (some (g,Cr c t)):=by rw [hl,acE,hi];rfl
  rw [acE] at h1
  obtain ⟨κ,h2,h3⟩:=Option.map_eq_some_iff.1 h1
  exact ⟨κ,h2,h3⟩
 refine ⟨fun i g c t hi=>?_,fun i j g c t c' t' hi hj=>?_,h.keep.toBelow (acG _) (fun _ e=>e.elim)⟩
 ·obtain ⟨κ,_,h2⟩:=hx i g c t hi
  obtain ⟨⟨o,ho,rfl⟩,hT⟩:=h.mem κ g _ h2
  exact ⟨ho,hT.resolve_left id⟩
 ·obtain ⟨κ,h1,h2⟩:=hx i g c t hi
  obtain ⟨κ',h3,h4⟩:=hx j g c' t' hj
  have e:=h.inj κ κ' g _ _ h2 h4
  subst e
  obtain ⟨i1,i2⟩:=List.getElem?_eq_some_iff.1 h1
  obtain ⟨j1,j2⟩:=List.getElem?_eq_some_iff.1 h3
  exact (List.getElem_inj (h₀:=i1) (h₁:=j1) hd).1 (i2.trans j2.symm)
structure Ud (P:Program) (ty:TypeId) (n:Nat):Prop where
 d:∃ d,P.underlying ty=some d∧d.isRow=true
 i:(P.info? ty).map (·.size)=some n
section
variable {P:Program} {Q:Exit→Act→World→Prop} {T:Nat→Prop} {w:World} {l:List Oper} {old:List (Nat×OP)} {sy:List Sy} {pt:List Put} {a:Act} {r:List Oper} {i:Nat} {o:Oper}
abbrev dW (P:Program) (Q:Exit→Act→World→Prop) (l:List Oper) (T:Nat→Prop) (w:World) (old:List (Nat×OP)) (sy:List Sy) (pt:List Put) (a:Act) (r:List Oper) (i:Nat):Prop:=dM P Q l (fun f u=>SJ T w old sy pt f u) a r i
theorem SyN:dW P Q l T w old sy pt a [] i:=trivial
theorem jD (hW:uZ l sy=true) (hr:dW P Q l T w old sy pt a r (i+1)) {x:SV} (hg:o.guard=none:=by rfl) (hs:sy[i]? = some ⟨.v x,none⟩:=by rfl) (hq:gM sy pt i=true:=by kernel_rfl) (he:(easy o.op && o.op.operands.toList.all (iD l i))=true:=by kernel_rfl)
  (h:∀ (f:Fill) (u:World),(execOp (sev l sy a f) o).run P u = .ok (.value (den f x)) u:=by intro f u;first|rfl|kernel_rfl):dW P Q l T w old sy pt a (o :: r) i :=
 .cons (O1 hW hg hs hq rfl he h) hr
theorem SyB (hW:uZ l sy=true) (hr:dW P Q l T w old sy pt a r (i+1)) {v:Value} (t:TypeId) (ps:Array (Nat×Operand)) (vs:List (Nat×Value)) (hrun:∀ u,(Instr.build t vs.toArray).run P u = .ok v u) (ho:o.op = .build t ps:=by rfl) (hg:o.guard=none:=by rfl) (hs:sy[i]? = some (Yv v):=by rfl) (hq:gM sy pt i=true:=by kernel_rfl) (he:(easy o.op && o.op.operands.toList.all (iD l i))=true:=by kernel_rfl)
  (hv:∀ f,ps.toList.map (fun p=>(p.1,sev l sy a f p.2))=vs:=by intro f;first|rfl|kernel_rfl):dW P Q l T w old sy pt a (o :: r) i :=
 .cons (O1 hW hg hs hq rfl he fun f u=>nZ t ps ho vs.toArray (by rw [hv f]) v (hrun u)) hr
theorem vY (hW:uZ l sy=true) (hr:dW P Q l T w old sy pt a r (i+1)) {ty:TypeId} {x:Operand} {k:IntKind} {xs:List Int} {n:Nat} (κ off:Nat) (cs:Array Value) (t:TypeId) (hR:Ud P ty n) (hn:xs.length=n) (hp:(cs.toList.drop off).take xs.length=xs.map (Value.int k))
  (ho:o.op = .load ty x:=by rfl) (hg:o.guard=none:=by rfl) (hs:sy[i]? = some (Yr k xs):=by rfl) (hq:gM sy pt i=true:=by kernel_rfl) (hrd:iD l i x=true:=by kernel_rfl) (hl:uy l old sy i κ=true:=by kernel_rfl)
  (hx:∀ f,sev l sy a f x = .pointer (some ⟨adr old f κ,off,none⟩):=by intro f;first|rfl|kernel_rfl) (hc:cont l old sy pt i κ=some (Cr cs t):=by kernel_rfl):dW P Q l T w old sy pt a (o :: r) i:=by
 obtain ⟨d,hd1,hd2⟩:=hR.d
 exact .cons (sy_load κ off n hW hg hs hq rfl ho hrd hl hx hc hd1 hd2 hR.i fun f ob h=>⟨cs,t,(0,0),xs,h,hn,hp,rfl⟩) hr
theorem SyA (hW:uZ l sy=true) (hr:dW P Q l T w old sy pt a r (i+1)) {t:TypeId} {cs:Array Value} (hz:∀ u,(zeroValue t).run P u = .ok (.agg cs) u) (ho:o.op = .alloc t:=by rfl) (hg:o.guard=none:=by rfl) (hs:sy[i]? = some (Yn cs t):=by rfl) (hB:Np l old pt i=true:=by kernel_rfl):dW P Q l T w old sy pt a (o :: r) i :=
 .cons (Vp hW hg hs rfl rfl hB ho hz rfl) hr
end
end Go.Proofs.YthdgbgleklkaiaaDoor
