/- 32 bytes and the number that they are; Plain facts on bytes as numbers. Condition: as each theorem says. -/
import Derived.Lib.SlBytesConst
import Derived.Test.YthdgbgleklkaiaaGreatDoorQc05
import Derived.Test.YthdgbgleklkaiaaGreatDoorQc06
open Option renaming map_some→abC,getD_some→abJ,bind_some→abP
open List renaming getElem?_map→abD,all_eq_true→abE,getElem?_eq_getElem→abF,mem_of_getElem?→abH,map_nil→abI,map_cons→abK,length_map→abL,mem_singleton→abM,map_congr_left→abQ,map_append→abS,map_toArray→abU,length_append→abV,getElem?_append→abW
open Nat renaming le_refl→abG,mod_eq_of_lt→abO
open Array renaming getElem?_modify→abT
set_option linter.unusedSimpArgs false
set_option linter.unusedVariables false
namespace Go.Proofs.YthdgbgleklkaiaaGreatDoor.Sl
open Go.RowKit Lm Fp Sc
theorem zero_num (w:World):(zeroValue 25).run Tryz.prog w = .ok (.agg (arr .u8 (List.replicate 32 0))) w:=by kernel_rfl
theorem oZ:(Tryz.prog.info? 25).map (·.size)=some 32:=by kernel_rfl
theorem bG {xs:List Int} (h:xs.length=32):(Tryz.prog.info? 25).map (·.size)=some (arr .u8 xs).size:=by rw [aD,h];exact oZ
theorem bU {xs:List Int} (h:xs.length=32):(Tryz.prog.info? 25).map (·.size)=some xs.length:=by rw [h];exact oZ
def NU (ks:List Int) (a:Nat):Prop:=ks=aW (bD 256 32 a)∧a < 256 ^ 32
theorem NU.len {ks:List Int} {a:Nat} (h:NU ks a):ks.length=32:=by rw [h.1,aG,aK]
theorem NU.cast {ks:List Int} {a b:Nat} (h:NU ks a) (e:a=b):NU ks b:=e▸h
end Go.Proofs.YthdgbgleklkaiaaGreatDoor.Sl
namespace Go.Proofs.YthdgbgleklkaiaaGreatDoor.Sl
open Go.RowKit Lm Fp
theorem NU.inj {xs ys:List Int} {a b:Nat} (hx:NU xs a) (hy:NU ys b):(xs == ys)=decide (a=b):=by
 obtain ⟨rfl,h1⟩:=hx
 obtain ⟨rfl,h2⟩:=hy
 by_cases e:a=b
 ·subst e;simp
 ·rw [decide_eq_false e,beq_eq_false_iff_ne]
  intro h
  have h3:bD 256 32 a=bD 256 32 b:=by
   have:=congrArg (List.map Int.toNat) h
   have e:∀ l:List Nat,(aW l).map Int.toNat=l:=fun l=>by rw [aW,List.map_map];exact List.map_id l
   rwa [e,e] at this
  have h4:=congrArg (val 256) h3
  rw [fA,fA,abO h1,abO h2] at h4
  exact e h4
end Go.Proofs.YthdgbgleklkaiaaGreatDoor.Sl
namespace Go.Proofs.YthdgbgleklkaiaaGreatDoor
open Go.RowKit
inductive SV where
 | c (v:Value)
 | q (j off:Nat)
 | sl (j off n m:Nat)
 | r (j:Nat)
def eX:Option Value→Nat
 | some (.pointer (some a))=>a.block
 | some (.slice (some a) _ _)=>a.block
 | _=>0
def den (f:Fill):SV→Value
 | .c v=>v
 | .q j off => .pointer (some ⟨eX (f j),off,none⟩)
 | .sl j off n m => .slice (some ⟨eX (f j),off,none⟩) n m
 | .r j=>(f j).getD undef
def SV.ref:SV→Option Nat
 | .c _=>none
 | .q j _=>some j
 | .sl j _ _ _=>some j
 | .r j=>some j
inductive CL where
 | v (x:SV)
 | soft (S:Value→Prop)
 | new
 | mk (n:Nat)
 | w (S:World→Value→Prop) (h:∀ u u' v,Below u.heap.size u u'→S u v→S u' v)
def CL.notW:CL→Bool
 | .w _ _=>false
 | _=>true
theorem CL.no {c:CL} (h:c.notW=true) {X:(World→Value→Prop)→Prop}:∀ S h',c = .w S h'→X S:=fun S h' e=>by rw [e] at h;cases h
theorem Dm {kn:Nat→Option Bool} {i κ:Nat}:∀ {pt:List Put} {q:OP},nO kn i κ pt=some q→oD pt i=false
 | [],_,h=>by cases h
 | e :: r,q,h=>by
  unfold nO at h
  show (e.1 != i && oD r i)=false
  by_cases c:e.1=i
  ·simp [c]
  ·rw [if_neg c] at h
   rw [Dm h,Bool.and_false]
def CL.ok (f:Fill) (v:Value):CL→Prop
 | .v x=>v=den f x
 | .soft S=>S v
 | .new=>∃ g:Nat,v = .pointer (some ⟨g,0,none⟩)
 | .mk n=>∃ g:Nat,v = .slice (some ⟨g,0,none⟩) n n
 | .w _ _=>True
def CL.ref:CL→Option Nat
 | .v x=>x.ref
 | _=>none
def CL.sv (j:Nat):CL→SV
 | .v x=>x
 | .soft _ => .r j
 | .new => .q j 0
 | .mk n => .sl j 0 n n
 | .w _ _ => .r j
def CL.pI:CL→Bool
 | .new=>true
 | .mk _=>true
 | _=>false
structure Sy where
 cl:CL
 obj:Option OP:=none
def o8 (p:OP) (v:Value):Option (Nat×OP):=match v with
 | .pointer (some a)=>some (a.block,p)
 | .slice (some a) _ _=>some (a.block,p)
 | _=>none
def Sy.sp (s:Sy):Sp:=⟨fun _=>True,fun v=>match s.obj with|some p=>o8 p v|none=>none⟩
def uK (l:List Oper) (sy:List Sy):Bool:=(List.range sy.length).all fun i=>match (sy[i]?).bind (·.cl.ref) with
 | some j=>((Kc l).getD i 0).testBit j
 | none=>true
structure SJ (T:Nat→Prop) (w:World) (old:List (Nat×OP)) (sy:List Sy) (pt:List Put) (f:Fill) (u:World):Prop where
 val:∀ i v,f i=some v→∃ s,sy[i]? = some s∧s.cl.ok f v
 mem:Holds T w u (dY old (sy.map Sy.sp) pt f)
 wld:∀ i v s S h,f i=some v→sy[i]? = some s→s.cl = .w S h→(∀ e∈pt,f e.1=none)→S u v
theorem nZ {l:List Oper} {i j:Nat} (h:((Kc l).getD i 0).testBit j=true):Ahead l i j:=vI l [] [] rfl rfl (fun i j h=>by simp at h) i j h
theorem den_upd {f:Fill} {i:Nat} {v:Value} {x:SV} (h:x.ref≠some i):den (f.upd i v) x=den f x:=by
 cases x with
 | c v=>rfl
 | q j off=>simp only [den,Fill.upd];rw [if_neg (fun e=>h (by rw [SV.ref,e]))]
 | sl j off n m=>simp only [den,Fill.upd];rw [if_neg (fun e=>h (by rw [SV.ref,e]))]
 | r j=>simp only [den,Fill.upd];rw [if_neg (fun e=>h (by rw [SV.ref,e]))]
theorem WT {f:Fill} {i:Nat} {v v':Value} {c:CL} (h:c.ref≠some i):c.ok (f.upd i v) v'↔c.ok f v':=by
 cases c with
 | v x=>simp only [CL.ok];rw [den_upd (fun e=>h (by rw [CL.ref,e]))]
 | soft S=>exact Iff.rfl
 | new=>exact Iff.rfl
 | mk n=>exact Iff.rfl
 | w S h=>exact Iff.rfl
theorem Vh {l:List Oper} {sy:List Sy} (h:uK l sy=true) {i j:Nat} {s:Sy} (hs:sy[i]? = some s) (hr:s.cl.ref=some j):Ahead l i j:=by
 have h1:=List.all_eq_true.1 h i (List.mem_range.2 (List.getElem?_eq_some_iff.1 hs).1)
 rw [hs] at h1
 simp only [abP,hr] at h1
 exact nZ h1
section
variable {P:Program} {Q:Exit→Act→World→Prop} {T:Nat→Prop} {w:World} {l:List Oper} {old:List (Nat×OP)} {sy:List Sy} {pt:List Put} {a:Act}
theorem SJ.upd {f:Fill} {u u':World} (hwf:uK l sy=true) (h:SJ T w old sy pt f u) (hc:Closed l f) {i:Nat} (hi:f i=none) (hu:∀ j,dF l i j=true→(f j).isSome=true) {s:Sy} (hs:sy[i]? = some s) {v:Value} (hv:s.cl.ok f v)
  (hm:Holds T w u' (dY old (sy.map Sy.sp) pt (f.upd i v))) (hb:oD pt i=true→Below u.heap.size u u') (hw:∀ S h,s.cl = .w S h→S u' v):SJ T w old sy pt (f.upd i v) u':=by
 refine ⟨fun k v' hk=>?_,hm,fun k v' s' S h' hk hs' hc' hno=>?_⟩
 rotate_left
 ·by_cases e:k=i
  ·subst e
   simp only [Fill.upd,if_pos,Option.some.injEq] at hk
   subst hk
   rw [hs] at hs'
   cases hs'
   exact hw S h' hc'
  ·simp only [Fill.upd] at hk
   rw [if_neg e] at hk
   have hne:∀ x∈pt,x.1≠i∧f x.1=none:=fun x hx=>by
    have h1:=hno x hx
    unfold Fill.upd at h1
    by_cases c:x.1=i
    ·rw [if_pos c] at h1;cases h1
    ·rw [if_neg c] at h1;exact ⟨c,h1⟩
   exact h' _ _ _ (hb (by simp only [oD,abE,bne_iff_ne];exact fun x hx=>(hne x hx).1)) (h.wld k v' s' S h' hk hs' hc' fun x hx=>(hne x hx).2)
 by_cases e:k=i
 ·subst e
  simp only [Fill.upd,if_pos,Option.some.injEq] at hk
  subst hk
  refine ⟨s,hs,(WT (fun hr=>?_)).2 hv⟩
  have:=(Vh hwf hs hr).up hc hu
  rw [hi] at this
  cases this
 ·simp only [Fill.upd] at hk
  rw [if_neg e] at hk
  obtain ⟨s',hs',hv'⟩:=h.val k v' hk
  refine ⟨s',hs',(WT (fun hr=>?_)).2 hv'⟩
  have:=(Vh hwf hs' hr).some hc (by rw [hk];rfl)
  rw [hi] at this
  cases this
def ZE (l:List Oper) (s:Tmp):Option Nat:=l.findIdx? fun o=>o.dst == some s
def sev (l:List Oper) (sy:List Sy) (a:Act) (f:Fill):Operand→Value
 | .tmp s=>match ZE l s with
  | some j=>match sy[j]? with
   | some y=>den f (y.cl.sv j)
   | none=>undef
  | none=>a.tmps.getD s undef
 | x=>a.eval x
def iG (l:List Oper) (i:Nat) (x:Operand):Bool:=match x with
 | .tmp s=>match ZE l s with
  | some j=>((Kc l).getD i 0).testBit j
  | none=>true
 | _=>true
theorem jr {f:Fill} {b:Act} {u:World} (h:SJ T w old sy pt f u) (hc:Closed l f) {i:Nat} (hu:∀ j,dF l i j=true→(f j).isSome=true) (hs:uy l f a b) {x:Operand} (hx:iG l i x=true):b.eval x=sev l sy a f x:=by
 cases x with
 | tmp s =>
  simp only [iG] at hx
  simp only [sev]
  cases hd:ZE l s with
  | none =>
   rw [hd] at hx
   simp only
   refine hs.old s ?_
   rw [abE]
   intro o ho
   have:=List.findIdx?_eq_none_iff.1 hd o ho
   simpa using this
  | some j =>
   rw [hd] at hx
   simp only at hx ⊢
   obtain ⟨v,hv⟩:=sE ((nZ hx).up hc hu)
   obtain ⟨s',hs',hok⟩:=h.val j v hv
   rw [hs']
   simp only
   obtain ⟨hlt,h1, -⟩:=List.findIdx?_eq_some_iff_getElem.1 hd
   have e:b.eval (.tmp s)=v:=hs.val j s (by rw [abF hlt];simpa using h1) hv
   rw [e]
   cases hcl:s'.cl with
   | v y=>rw [hcl] at hok;exact hok
   | soft S=>simp [CL.sv,den,hv]
   | new=>rw [hcl] at hok;obtain ⟨g,rfl⟩:=hok;simp [CL.sv,den,hv,eX]
   | mk n=>rw [hcl] at hok;obtain ⟨g,rfl⟩:=hok;simp [CL.sv,den,hv,eX]
   | w S h=>simp [CL.sv,den,hv]
 | const v=>rfl
 | global g=>rfl
 | func g=>rfl
def adr (old:List (Nat×OP)) (f:Fill) (κ:Nat):Nat:=if κ < old.length then (old.getD κ (0,fun _=>False)).1 else eX (f (κ - old.length))
def bp (old:List (Nat×OP)) (sy:List Sy) (κ:Nat):Option OP:=if κ < old.length then (old[κ]?).map (·.2) else (sy[κ - old.length]?).bind (·.obj)
def cont (l:List Oper) (old:List (Nat×OP)) (sy:List Sy) (pt:List Put) (i κ:Nat):Option OP:=(bp old sy κ).bind fun p=>DI (fun k=>if k=i then some false else know l i k) pt κ p
def tN (l:List Oper) (old:List (Nat×OP)) (sy:List Sy) (i κ:Nat):Bool:=decide (κ < old.length) || (((Kc l).getD i 0).testBit (κ - old.length) && ((sy[κ - old.length]?).map fun s=>s.cl.pI).getD false)
theorem qC {f:Fill} {u:World} (h:SJ T w old sy pt f u) (hc:Closed l f) {i:Nat} (hi:f i=none) (hu:∀ j,dF l i j=true→(f j).isSome=true) {κ:Nat} {p:OP} (hp:cont l old sy pt i κ=some p) (hl:tN l old sy i κ=true) :
  dY old (sy.map Sy.sp) pt f κ=some (adr old f κ,p):=by
 obtain ⟨p0,hb,hk⟩:=Option.bind_eq_some_iff.1 hp
 have hput:gF pt f κ p0=p:=by
  refine tT (fun k b hk=>?_) pt κ p0 p hk
  by_cases e:k=i
  ·rw [if_pos e] at hk;cases hk;rw [e,hi];rfl
  ·rw [if_neg e] at hk;exact FT hc hi hu hk
 simp only [tN,Bool.or_eq_true,decide_eq_true_eq,Bool.and_eq_true] at hl
 unfold bp at hb
 unfold dY jB adr
 by_cases hlt:κ < old.length
 ·rw [if_pos hlt] at hb ⊢
  rw [if_pos hlt]
  rw [abF hlt] at hb ⊢
  simp only [abC,Option.some.injEq] at hb ⊢
  rw [List.getD_eq_getElem?_getD,abF hlt,abJ,hb,hput]
 ·rw [if_neg hlt] at hb ⊢
  rw [if_neg hlt]
  obtain ⟨ha,hcl⟩:=hl.resolve_left hlt
  obtain ⟨s,hs,ho⟩:=Option.bind_eq_some_iff.1 hb
  obtain ⟨v,hv⟩:=sE ((nZ ha).up hc hu)
  obtain ⟨s',hs',hok⟩:=h.val _ v hv
  rw [hs] at hs'
  cases hs'
  rw [hv,abD,hs]
  have hcl0:=hcl
  simp only [abC,Sy.sp,ho]
  cases hx:s.cl with
  | v x=>simp [hs,hx,CL.pI] at hcl0
  | soft S=>simp [hs,hx,CL.pI] at hcl0
  | w S h=>simp [hs,hx,CL.pI] at hcl0
  | new =>
   rw [hx] at hok
   obtain ⟨g,rfl⟩:=hok
   simp only [o8,abC,eX,hput]
  | mk n =>
   rw [hx] at hok
   obtain ⟨g,rfl⟩:=hok
   simp only [o8,abC,eX,hput]
abbrev vL (P:Program) (Q:Exit→Act→World→Prop) (l:List Oper) (T:Nat→Prop) (w:World) (old:List (Nat×OP)) (sy:List Sy) (pt:List Put) (a:Act) (i:Nat) (o:Oper):Prop:=nA P Q l (fun f u=>SJ T w old sy pt f u) a i o
def gQ (sy:List Sy) (pt:List Put) (i:Nat):Bool:=(match (sy[i]?).map (·.obj) with|some none=>true|_=>false) && oD pt i
theorem kR {f:Fill} {i:Nat} (hi:f i=none) (hq:gQ sy pt i=true) (v:Value):dY old (sy.map Sy.sp) pt (f.upd i v)=dY old (sy.map Sy.sp) pt f:=by
 simp only [gQ,Bool.and_eq_true] at hq
 obtain ⟨h1,h2⟩:=hq
 cases hs:sy[i]? with
 | none=>rw [hs] at h1;simp at h1
 | some s =>
  rw [hs] at h1
  have ho:s.obj=none:=by
   cases hx:s.obj with
   | none=>rfl
   | some p=>rw [abC,hx] at h1;simp at h1
  exact Jv (s:=s.sp) (by rw [abD,hs];rfl) (by simp [Sy.sp,ho]) hi h2
theorem fP {o:Oper} {b:Act} (hg:o.guard=none):Region.wanted o (yielded l.toArray b.tmps)=true:=by simp [Region.wanted,hg]
theorem EI {i:Nat} {o:Oper} {s:Sy} (hwf:uK l sy=true) (hg:o.guard=none) (hs:sy[i]? = some s) (hq:gQ sy pt i=true) (hnw:s.cl.notW=true)
  (h:∀ (f:Fill) (b:Act) (u:World),SJ T w old sy pt f u→Closed l f→f i=none→(∀ j,dF l i j=true→(f j).isSome=true)→uy l f a b→∃ v,(execOp b.eval o).run P u = .ok (.value v) u∧s.cl.ok f v):vL P Q l T w old sy pt a i o:=by
 intro f b u K hJ hf hc hu jf hK
 rw [if_pos (fP hg)]
 obtain ⟨v,hrun,hok⟩:=h f b u hJ hc hf hu jf
 unfold Oper.wp
 rw [hrun]
 refine hK v u (hJ.upd hwf hc hf hu hs hok ?_ (fun _=>Below.refl _ _) (CL.no hnw))
 rw [kR hf hq]
 exact hJ.mem
def easy:Op→Bool
 | .move _ | .assign _ | .fieldAddr _ _ _ | .indexAddr _ _ _ | .extract _ _ | .build _ _ | .binOp _ _ _ _ _ | .unOp _ _ _ | .convert _ _ _ | .slice _ _ _ _ _ | .index _ _ _ | .field _ _ _ | .sliceToArrayPointer _ _ | .pick _ _ _=>true
 | _=>false
theorem execOp_congr {ρ ρ':Operand→Value} {o:Oper} (he:easy o.op=true) (h:∀ x∈o.op.operands.toList,ρ x=ρ' x):execOp ρ o=execOp ρ' o:=by
 unfold execOp
 cases hop:o.op with
 | move x=>rw [hop] at h;simp only [h x (by simp [Op.operands])]
 | assign x=>rw [hop] at h;simp only [h x (by simp [Op.operands])]
 | fieldAddr t x n=>rw [hop] at h;simp only [h x (by simp [Op.operands])]
 | indexAddr t x y=>rw [hop] at h;simp only [h x (by simp [Op.operands]),h y (by simp [Op.operands])]
 | extract x n=>rw [hop] at h;simp only [h x (by simp [Op.operands])]
 | binOp k t x y t2=>rw [hop] at h;simp only [h x (by simp [Op.operands]),h y (by simp [Op.operands])]
 | unOp k t x=>rw [hop] at h;simp only [h x (by simp [Op.operands])]
 | convert t t2 x=>rw [hop] at h;simp only [h x (by simp [Op.operands])]
 | index t x y=>rw [hop] at h;simp only [h x (by simp [Op.operands]),h y (by simp [Op.operands])]
 | field t x n=>rw [hop] at h;simp only [h x (by simp [Op.operands])]
 | sliceToArrayPointer t x=>rw [hop] at h;simp only [h x (by simp [Op.operands])]
 | pick x y z=>rw [hop] at h;simp only [h x (by simp [Op.operands]),h y (by simp [Op.operands]),h z (by simp [Op.operands])]
 | build t ps =>
  rw [hop] at h
  have e:(ps.map fun (p:Nat×Operand)=>(p.1,ρ p.2))=ps.map fun (p:Nat×Operand)=>(p.1,ρ' p.2):=by
   apply Array.map_congr_left
   intro p hp
   rw [h p.2 (by simp only [Op.operands];exact List.mem_map.2 ⟨p,by simpa using hp,rfl⟩)]
  simp only [e]
 | slice t x lo hi mx =>
  rw [hop] at h
  have e1:lo.map ρ=lo.map ρ':=by cases lo with|none=>rfl|some y=>simp only [abC,h y (by simp [Op.operands])]
  have e2:hi.map ρ=hi.map ρ':=by cases hi with|none=>rfl|some y=>simp only [abC,h y (by simp [Op.operands])]
  have e3:mx.map ρ=mx.map ρ':=by cases mx with|none=>rfl|some y=>simp only [abC,h y (by simp [Op.operands])]
  simp only [h x (by simp [Op.operands]),e1,e2,e3]
 | _=>simp [hop,easy] at he
theorem Pw {i:Nat} {o:Oper} {s:Sy} {x:SV} (hwf:uK l sy=true) (hg:o.guard=none) (hs:sy[i]? = some s) (hq:gQ sy pt i=true) (hcl:s.cl = .v x) (he:(easy o.op && o.op.operands.toList.all (iG l i))=true)
  (h:∀ (f:Fill) (u:World),(execOp (sev l sy a f) o).run P u = .ok (.value (den f x)) u):vL P Q l T w old sy pt a i o:=by
 simp only [Bool.and_eq_true,abE] at he
 refine EI hwf hg hs hq (by rw [hcl];rfl) fun f b u hJ hc hf hu jf=>⟨den f x,?_,by rw [hcl];rfl⟩
 rw [execOp_congr he.1 (fun y hy=>jr hJ hc hu jf (he.2 y hy))]
 exact h f u
theorem zu {i:Nat} {o:Oper} {s:Sy} (F:FuncId) (xs:List Operand) (ts:Array TypeId) (hwf:uK l sy=true) (hg:o.guard=none) (hs:sy[i]? = some s) (hq:gQ sy pt i=true)
  (ho:o.op = .call { callee := .value (.func F),args:=xs.toArray,argTypes:=ts }) (hr:xs.all (iG l i)=true) (hF:∀ (args:Array Value) (u:World),(callFunc F args).run P u = .ok (.enter F args) u)
  (h:∀ (f:Fill) (u:World),SJ T w old sy pt f u→(∀ j,((Kc l).getD i 0).testBit j=true→∃ v s',f j=some v∧sy[j]? = some s'∧s'.cl.ok f v)→Calls P F (xs.map (sev l sy a f)).toArray u (fun e w'=>∃ v,e = .returned v∧s.cl.ok f v∧Below u.heap.size u w'∧∀ S h,s.cl = .w S h→S w' v)):vL P Q l T w old sy pt a i o:=by
 intro f b u K hJ hf hc hu jf hK
 have hv:xs.map b.eval=xs.map (sev l sy a f):=abQ fun y hy=>jr hJ hc hu jf (List.all_eq_true.1 hr y hy)
 rw [if_pos (fP hg)]
 have h0:=fQ (P:=P) (Q:=Q) (ops := #[]) (o:=o) (b:=b) (u:=u) (K:=K) (E:=True) hg F xs ts _ ho hv hF ?_
 ·rwa [if_pos (by simp [Region.wanted,hg])] at h0
 ·refine Calls.mono (h f u hJ fun j hj=>?_) ?_
  ·obtain ⟨v,hv⟩:=sE ((nZ hj).up hc hu)
   obtain ⟨s',hs',hok⟩:=hJ.val j v hv
   exact ⟨v,s',hv,hs',hok⟩
  ·rintro e w' ⟨v,rfl,hok,hb,hw⟩
   refine ⟨v,rfl,hK v w' (hJ.upd hwf hc hf hu hs hok ?_ (fun _=>hb) hw)⟩
   rw [kR hf hq]
   exact hJ.mem.below hb
def NN (l:List Oper) (old:List (Nat×OP)) (pt:List Put) (i:Nat):Bool:=oD pt i && pt.all fun e=>e.2.1 != old.length+i || ((Kc l).getD e.1 0).testBit i
theorem VN {i:Nat} {o:Oper} {s:Sy} {p:OP} {t:TypeId} {cs:Array Value} (hwf:uK l sy=true) (hg:o.guard=none) (hs:sy[i]? = some s) (hcl:s.cl = .new) (LC:s.obj=some p) (hB:NN l old pt i=true)
  (ho:o.op = .alloc t) (hz:∀ u,(zeroValue t).run P u = .ok (.agg cs) u) (hp:p (.cells cs t (0,0))):vL P Q l T w old sy pt a i o:=by
 intro f b u K hJ hf hc hu jf hK
 simp only [NN,Bool.and_eq_true,abE,Bool.or_eq_true,bne_iff_ne] at hB
 have h0:=bA (P:=P) (Q:=Q) (ops := #[]) (o:=o) (a:=b) (w:=u) (K:=K) (E:=True) hg t ho cs (hz u) ?_
 ·rw [if_pos (fP hg)]
  rwa [if_pos (by simp [Region.wanted,hg])] at h0
 ·refine hK _ _ (hJ.upd hwf hc hf hu hs (by rw [hcl];exact ⟨_,rfl⟩) ?_ (fun _=>(Below.refl _ u).alloc (abG _) _) (CL.no (by rw [hcl];rfl)))
  rw [LB (s:=s.sp) (g:=u.heap.size) (p:=p) (by rw [abD,hs];rfl) (by simp [Sy.sp,LC,o8]) hB.1 (fun e he e2=>?_)]
  ·exact hJ.mem.new _ ((Below.refl _ u).alloc (abG _) _) (abG _) (aH u _) hp
  ·rcases hB.2 e he with h1|h1
   ·exact absurd e2 h1
   ·exact (nZ h1).down hc hf
theorem sy_load {i:Nat} {o:Oper} {s:Sy} {p:OP} {ty:TypeId} {x:Operand} {k:IntKind} {d:TypeDesc} (κ off n:Nat) (hwf:uK l sy=true) (hg:o.guard=none) (hs:sy[i]? = some s) (hq:gQ sy pt i=true) (hnw:s.cl.notW=true)
  (ho:o.op = .load ty x) (hr:iG l i x=true) (hl:tN l old sy i κ=true) (hx:∀ f,sev l sy a f x = .pointer (some ⟨adr old f κ,off,none⟩)) (hc':cont l old sy pt i κ=some p)
  (hu':P.underlying ty=some d) (hd:d.isRow=true) (hi:(P.info? ty).map (·.size)=some n)
  (h:∀ (f:Fill) (o:Obj),p o→∃ (cs:Array Value) (t:TypeId) (fr:Nat×Nat) (xs:List Int),o = .cells cs t fr∧xs.length=n∧(cs.toList.drop off).take xs.length=xs.map (Value.int k)∧s.cl.ok f (.agg (arr k xs))):vL P Q l T w old sy pt a i o:=by
 intro f b u K hJ hf hc hu jf hK
 have hh:=qC hJ hc hf hu hc' hl
 obtain ⟨⟨ob,Ka,hpo⟩, -⟩:=hJ.mem.mem κ _ _ hh
 obtain ⟨cs,t,fr,xs,rfl,hn,hpart,hok⟩:=h f ob hpo
 have h0:=eZ (P:=P) (Q:=Q) (ops := #[]) (o:=o) (a:=b) (w:=u) (K:=K) (E:=True) hg ty x ho _ off cs t fr d Ka ((jr hJ hc hu jf hr).trans (hx f)) k xs hpart hu' hd (by rw [hn];exact hi) ?_
 ·rw [if_pos (fP hg)]
  rwa [if_pos (by simp [Region.wanted,hg])] at h0
 ·refine hK _ _ (hJ.upd hwf hc hf hu hs hok ?_ (fun _=>Below.refl _ _) (CL.no hnw))
  rw [kR hf hq]
  exact hJ.mem
theorem Ip {i:Nat} {o:Oper} {s:Sy} {p q:OP} {ty t:TypeId} {x y:Operand} (κ n:Nat) (hwf:uK l sy=true) (hg:o.guard=none) (hs:sy[i]? = some s) (LC:s.obj=none) (hcl:s.cl = .soft fun _=>True)
  (ho:o.op = .store ty x y) (hr:(iG l i x && iG l i y)=true) (hl:tN l old sy i κ=true) (hx:∀ f,sev l sy a f x = .pointer (some ⟨adr old f κ,0,none⟩)) (hc':cont l old sy pt i κ=some p) (hpt:nO (know l i) i κ pt=some q)
  (hb:∀ o,p o→∃ cs,o = .cells cs t (0,0)∧cs.size=n) (hi:(P.info? ty).map (·.size)=some n)
  (hy:∀ (f:Fill),(∀ j,((Kc l).getD i 0).testBit j=true→∃ v s',f j=some v∧sy[j]? = some s'∧s'.cl.ok f v)→∃ ds,sev l sy a f y = .agg ds∧ds.size=n∧ds.all (·.oneCell')=true∧q (.cells ds t (0,0))):vL P Q l T w old sy pt a i o:=by
 intro f b u K hJ hf hc hu jf hK
 simp only [Bool.and_eq_true] at hr
 have hh:=qC hJ hc hf hu hc' hl
 obtain ⟨⟨ob,Ka,hpo⟩, -⟩:=hJ.mem.mem κ _ _ hh
 obtain ⟨cs,rfl,hn⟩:=hb ob hpo
 obtain ⟨ds,hds,hsz,hone,hq⟩:=hy f fun j hj=>by
  obtain ⟨v,hv⟩:=sE ((nZ hj).up hc hu)
  obtain ⟨s',hs',hok⟩:=hJ.val j v hv
  exact ⟨v,s',hv,hs',hok⟩
 have h0:=aI (P:=P) (Q:=Q) (ops := #[]) (o:=o) (a:=b) (w:=u) (K:=K) (E:=True) hg ty x y ho _ cs ds t Ka ((jr hJ hc hu jf hr.1).trans (hx f)) ((jr hJ hc hu jf hr.2).trans hds) (by rw [hsz,hn]) (by rw [hsz];exact hi) hone ?_
 ·rw [if_pos (fP hg)]
  rwa [if_pos (by simp [Region.wanted,hg])] at h0
 ·intro w' h1 h2 _
  refine hK _ _ (hJ.upd hwf hc hf hu hs (by rw [hcl];trivial) ?_ (fun e=>by rw [Dm hpt] at e;cases e) (CL.no (by rw [hcl];rfl)))
  rw [LA (s:=s.sp) (kn:=know l i) (fun k b hk=>FT hc hf hu hk) (by rw [abD,hs];rfl) (by simp [Sy.sp,LC]) hf hpt hh]
  exact hJ.mem.put κ hh h2 h1 hq
def CQ (g:Nat→Nat) (x:Nat→Value):SV→Value
 | .c v=>v
 | .q j off => .pointer (some ⟨g j,off,none⟩)
 | .sl j off n m => .slice (some ⟨g j,off,none⟩) n m
 | .r j=>x j
def Sy.at (g:Nat→Nat) (x:Nat→Value) (k:Nat) (s:Sy):Value:=match s.cl with
 | .v y=>CQ g x y
 | .soft _=>x k
 | .new => .pointer (some ⟨g k,0,none⟩)
 | .mk n => .slice (some ⟨g k,0,none⟩) n n
 | .w _ _=>x k
def lay (g:Nat→Nat) (x:Nat→Value):List Oper→List Sy→Nat→Act→Act
 | o :: l,s :: sy,k,a=>lay g x l sy (k+1) (a.put o.dst (s.at g x k))
 | _,_,_,a=>a
def vB (pt:List Put) (κ:Nat) (p:OP):OP:=pt.foldl (fun p e=>if e.2.1=κ then e.2.2 else p) p
def DT (old:List (Nat×OP)) (sy:List Sy) (pt:List Put) (g:Nat→Nat) (κ:Nat):Option (Nat×OP) :=
 if κ < old.length then (old[κ]?).map fun e=>(e.1,vB pt κ e.2) else ((sy[κ - old.length]?).bind (·.obj)).map fun p=>(g (κ - old.length),vB pt κ p)
def endB (l:List Oper) (sy:List Sy) (pt:List Put):Bool:=sy.length == l.length && (sy.all fun s=>s.obj.isNone || s.cl.pI) && pt.all fun e=>decide (e.1 < l.length)
theorem Li {g:Nat→Nat} {x:Nat→Value} {f:Fill}:∀ (l:List Oper) (sy:List Sy) (k:Nat) (a:Act),sy.length=l.length→(∀ i s,sy[i]? = some s→f (k+i)=some (s.at g x (k+i)))→laid l k f a=lay g x l sy k a
 | [],[],_,_,_,_=>rfl
 | [],_ :: _,_,_,h,_=>by simp at h
 | _ :: _,[],_,_,h,_=>by simp at h
 | o :: l,s :: sy,k,a,h,hf=>by
  have h0:=hf 0 s rfl
  simp only [Nat.add_zero] at h0
  simp only [laid,lay,h0]
  exact Li l sy (k+1) _ (by simpa using h) (fun i s' hs'=>by rw [show k+1+i=k+(i+1) by omega];exact hf (i+1) s' hs')
theorem QI {f:Fill} {y:SV}:den f y=CQ (fun j=>eX (f j)) (fun j=>(f j).getD undef) y:=by cases y <;> rfl
theorem gV {id:Nat} {u0:World} (hm:P.follows .mixedOrders=true) (hB:(DF l a.tmps.size && JQ l && endB l sy pt)=true) (hwf:uK l sy=true)
  (h0:Holds T w u0 fun κ=>old[κ]?) (hs:uK l sy=true→dN P Q l (fun f u=>SJ T w old sy pt f u) a l 0)
  (hend:∀ (g:Nat→Nat) (x:Nat→Value) (u:World),(∀ (k:Nat) (s:Sy) (S:Value→Prop),sy[k]? = some s→s.cl = .soft S→S (x k))→Holds T w u (DT old sy pt g)→Q .normal (lay g x l sy 0 a) u):(Code.region id l.toArray true).wp P Q a u0:=by
 rw [Bool.and_eq_true] at hB
 simp only [endB,Bool.and_eq_true,beq_iff_eq,abE,decide_eq_true_eq] at hB
 obtain ⟨hB1,⟨hlen,LC⟩,hpt⟩:=hB
 refine oP (fun f u=>SJ T w old sy pt f u) hm (by rw [hB1.1,hB1.2];rfl) ⟨fun i v h=>by simp at h,?_,fun i v s S h e=>by simp at e⟩ (hs hwf) fun f u hall hJ=>?_
 ·have e:dY old (sy.map Sy.sp) pt (fun _=>none)=fun κ=>old[κ]? := by
   have hn:∀ κ p,gF pt (fun _=>none) κ p=p:=by
    intro κ
    clear hpt hs hend
    induction pt with
    | nil=>intro p;rfl
    | cons e r ih =>
     intro p
     show gF r (fun _=>none) κ (if e.2.1=κ∧(none:Option Value).isSome=true then e.2.2 else p)=p
     rw [if_neg (by simp)]
     exact ih p
   funext κ
   unfold dY jB
   by_cases hlt:κ < old.length
   ·rw [if_pos hlt]
    simp only [hn]
    cases old[κ]? <;> rfl
   ·rw [if_neg hlt,List.getElem?_eq_none (by omega:old.length≤κ)]
    split <;> simp_all
  rw [e]
  exact h0.drew
 ·have hcl:∀ k s,sy[k]? = some s→∃ v,f k=some v∧s.cl.ok f v:=by
   intro k s hk
   obtain ⟨v,hv⟩:=sE (hall k (by rw [← hlen];exact (List.getElem?_eq_some_iff.1 hk).1))
   obtain ⟨s',hs',hok⟩:=hJ.val k v hv
   rw [hk] at hs'
   cases hs'
   exact ⟨v,hv,hok⟩
  rw [Li (g:=fun j=>eX (f j)) (x:=fun j=>(f j).getD undef) l sy 0 a hlen fun i s hi=>?_]
  ·refine hend _ _ _ (fun k s S hk hc=>?_) ?_
   ·obtain ⟨v,hv,hok⟩:=hcl k s hk
    rw [hc] at hok
    simp only [hv,abJ]
    exact hok
   ·have e:dY old (sy.map Sy.sp) pt f=DT old sy pt (fun j=>eX (f j)):=by
     have hp:∀ κ p,gF pt f κ p=vB pt κ p:=by
      intro κ
      unfold gF vB
      clear hJ hs hend
      induction pt with
      | nil=>intro p;rfl
      | cons e r ih =>
       intro p
       simp only [List.foldl_cons]
       have:=hall e.1 (hpt e (List.mem_cons_self ..))
       have e1:∀ p,(if e.2.1=κ∧(f e.1).isSome=true then e.2.2 else p)=if e.2.1=κ then e.2.2 else p:=by
        intro p
        by_cases h1:e.2.1=κ
        ·rw [if_pos ⟨h1,this⟩,if_pos h1]
        ·rw [if_neg (fun h=>h1 h.1),if_neg h1]
       rw [e1]
       exact ih (fun x hx=>hpt x (List.mem_cons_of_mem _ hx)) _
     funext κ
     unfold dY jB DT
     by_cases hlt:κ < old.length
     ·rw [if_pos hlt,if_pos hlt]
      simp only [hp]
     ·rw [if_neg hlt,if_neg hlt,abD]
      cases hk:sy[κ - old.length]? with
      | none=>rfl
      | some s =>
       obtain ⟨v,hv,hok⟩:=hcl _ _ hk
       simp only [abC,hv,abP,Sy.sp]
       cases ho:s.obj with
       | none=>rfl
       | some p =>
        have h1:=LC s (abH hk)
        rw [ho] at h1
        simp only [Option.isNone_some,Bool.false_or] at h1
        cases hx:s.cl with
        | v y=>simp [hx,CL.pI] at h1
        | soft S=>simp [hx,CL.pI] at h1
        | w S h=>simp [hx,CL.pI] at h1
        | new =>
         rw [hx] at hok
         obtain ⟨g,rfl⟩:=hok
         simp only [o8,abC,eX,hp]
        | mk n =>
         rw [hx] at hok
         obtain ⟨g,rfl⟩:=hok
         simp only [o8,abC,eX,hp]
    rw [← e]
    exact hJ.mem
  ·rw [Nat.zero_add]
   obtain ⟨v,hv,hok⟩:=hcl i s hi
   rw [hv]
   unfold Sy.at
   cases hx:s.cl with
   | v y=>rw [hx] at hok;simp only;rw [← QI];exact congrArg some hok
   | soft S=>simp [hv]
   | w S h=>simp [hv]
   | new=>rw [hx] at hok;obtain ⟨g,rfl⟩:=hok;simp [hv,eX]
   | mk n=>rw [hx] at hok;obtain ⟨g,rfl⟩:=hok;simp [hv,eX]
end
abbrev Cj (cs:Array Value) (t:TypeId):OP:=fun o=>o = .cells cs t (0,0)
abbrev Yv (v:Value):Sy:=⟨.v (.c v),none⟩
abbrev Yr (k:IntKind) (xs:List Int):Sy:=⟨.v (.c (.agg (arr k xs))),none⟩
abbrev Yp (g off:Nat):Sy:=⟨.v (.c (.pointer (some ⟨g,off,none⟩))),none⟩
abbrev Yq (j off:Nat):Sy:=⟨.v (.q j off),none⟩
abbrev Yn (cs:Array Value) (t:TypeId):Sy:=⟨.new,some (Cj cs t)⟩
abbrev Y0:Sy:=⟨.soft fun _=>True,none⟩
def Dr (L:List (Nat×Array Value×TypeId)):List (Nat×OP):=L.map fun e=>(e.1,Cj e.2.1 e.2.2)
theorem bO.holds {w u:World} {L:List (Nat×Array Value×TypeId)} (h:bO w u L):Holds (fun _=>False) w u fun κ=>(Dr L)[κ]? := by
 have hx:∀ (i g:Nat) (p:OP),(Dr L)[i]? = some (g,p)→∃ c t,L[i]? = some (g,c,t)∧p=Cj c t:=by
  intro i g p hi
  simp only [Dr,abD,Option.map_eq_some_iff,Prod.mk.injEq] at hi
  obtain ⟨⟨g',c,t⟩,h1,rfl,rfl⟩:=hi
  exact ⟨c,t,h1,rfl⟩
 refine ⟨fun i g p hi=>?_,fun i j g p q hi hj=>?_,Kept.of_below h.below⟩
 ·obtain ⟨c,t,h1,rfl⟩:=hx i g p hi
  obtain ⟨h2,h3⟩:=h.mem i g c t h1
  exact ⟨⟨_,h2,rfl⟩, .inr h3⟩
 ·obtain ⟨c,t,h1,rfl⟩:=hx i g p hi
  obtain ⟨c',t',h2,rfl⟩:=hx j g q hj
  exact h.inj i j g c t c' t' h1 h2
theorem Holds.blk {w u:World} {L:Nat→Option (Nat×OP)} (h:Holds (fun _=>False) w u L) (ks:List Nat) (l:List (Nat×Array Value×TypeId)) (hd:ks.Nodup) (hl:ks.map L=l.map fun e=>some (e.1,Cj e.2.1 e.2.2)):bO w u l:=by
 have hlen:ks.length=l.length:=by have:=congrArg List.length hl;simpa using this
 have hx:∀ (i g:Nat) (c:Array Value) (t:TypeId),l[i]? = some (g,c,t)→∃ κ,ks[i]? = some κ∧L κ=some (g,Cj c t):=by
  intro i g c t hi
  have h1:(ks.map L)[i]? = some (some (g,Cj c t)):=by rw [hl,abD,hi];rfl
  rw [abD] at h1
  obtain ⟨κ,h2,h3⟩:=Option.map_eq_some_iff.1 h1
  exact ⟨κ,h2,h3⟩
 refine ⟨fun i g c t hi=>?_,fun i j g c t c' t' hi hj=>?_,h.keep.toBelow (abG _) (fun _ e=>e.elim)⟩
 ·obtain ⟨κ,_,h2⟩:=hx i g c t hi
  obtain ⟨⟨o,ho,rfl⟩,hT⟩:=h.mem κ g _ h2
  exact ⟨ho,hT.resolve_left id⟩
 ·obtain ⟨κ,h1,h2⟩:=hx i g c t hi
  obtain ⟨κ',h3,h4⟩:=hx j g c' t' hj
  have e:=h.inj κ κ' g _ _ h2 h4
  subst e
  obtain ⟨i1,i2⟩:=List.getElem?_eq_some_iff.1 h1
  obtain ⟨j1,j2⟩:=List.getElem?_eq_some_iff.1 h3
  exact (List.getElem_inj (h₀:=i1) (h₁:=j1) hd).1 (i2.trans j2.symm)
structure UC (P:Program) (ty:TypeId) (n:Nat):Prop where
 d:∃ d,P.underlying ty=some d∧d.isRow=true
 i:(P.info? ty).map (·.size)=some n
section
variable {P:Program} {Q:Exit→Act→World→Prop} {T:Nat→Prop} {w:World} {l:List Oper} {old:List (Nat×OP)} {sy:List Sy} {pt:List Put} {a:Act} {r:List Oper} {i:Nat} {o:Oper}
abbrev dZ (P:Program) (Q:Exit→Act→World→Prop) (l:List Oper) (T:Nat→Prop) (w:World) (old:List (Nat×OP)) (sy:List Sy) (pt:List Put) (a:Act) (r:List Oper) (i:Nat):Prop:=dN P Q l (fun f u=>SJ T w old sy pt f u) a r i
theorem SyN:dZ P Q l T w old sy pt a [] i:=trivial
theorem jH (hW:uK l sy=true) (hr:dZ P Q l T w old sy pt a r (i+1)) {x:SV} (hg:o.guard=none:=by rfl) (hs:sy[i]? = some ⟨.v x,none⟩:=by rfl) (hq:gQ sy pt i=true:=by kernel_rfl) (he:(easy o.op && o.op.operands.toList.all (iG l i))=true:=by kernel_rfl)
  (h:∀ (f:Fill) (u:World),(execOp (sev l sy a f) o).run P u = .ok (.value (den f x)) u:=by intro f u;first|rfl|kernel_rfl):dZ P Q l T w old sy pt a (o :: r) i :=
 .cons (Pw hW hg hs hq rfl he h) hr
theorem SyB (hW:uK l sy=true) (hr:dZ P Q l T w old sy pt a r (i+1)) {v:Value} (t:TypeId) (ps:Array (Nat×Operand)) (vs:List (Nat×Value)) (hrun:∀ u,(Instr.build t vs.toArray).run P u = .ok v u) (ho:o.op = .build t ps:=by rfl) (hg:o.guard=none:=by rfl) (hs:sy[i]? = some (Yv v):=by rfl) (hq:gQ sy pt i=true:=by kernel_rfl) (he:(easy o.op && o.op.operands.toList.all (iG l i))=true:=by kernel_rfl)
  (hv:∀ f,ps.toList.map (fun p=>(p.1,sev l sy a f p.2))=vs:=by intro f;first|rfl|kernel_rfl):dZ P Q l T w old sy pt a (o :: r) i :=
 .cons (Pw hW hg hs hq rfl he fun f u=>nU t ps ho vs.toArray (by rw [hv f]) v (hrun u)) hr
theorem vM (hW:uK l sy=true) (hr:dZ P Q l T w old sy pt a r (i+1)) {ty:TypeId} {x:Operand} {k:IntKind} {xs:List Int} {n:Nat} (κ off:Nat) (cs:Array Value) (t:TypeId) (hR:UC P ty n) (hn:xs.length=n) (hp:(cs.toList.drop off).take xs.length=xs.map (Value.int k))
  (ho:o.op = .load ty x:=by rfl) (hg:o.guard=none:=by rfl) (hs:sy[i]? = some (Yr k xs):=by rfl) (hq:gQ sy pt i=true:=by kernel_rfl) (hrd:iG l i x=true:=by kernel_rfl) (hl:tN l old sy i κ=true:=by kernel_rfl)
  (hx:∀ f,sev l sy a f x = .pointer (some ⟨adr old f κ,off,none⟩):=by intro f;first|rfl|kernel_rfl) (hc:cont l old sy pt i κ=some (Cj cs t):=by kernel_rfl):dZ P Q l T w old sy pt a (o :: r) i:=by
 obtain ⟨d,hd1,hd2⟩:=hR.d
 exact .cons (sy_load κ off n hW hg hs hq rfl ho hrd hl hx hc hd1 hd2 hR.i fun f ob h=>⟨cs,t,(0,0),xs,h,hn,hp,rfl⟩) hr
theorem SyA (hW:uK l sy=true) (hr:dZ P Q l T w old sy pt a r (i+1)) {t:TypeId} {cs:Array Value} (hz:∀ u,(zeroValue t).run P u = .ok (.agg cs) u) (ho:o.op = .alloc t:=by rfl) (hg:o.guard=none:=by rfl) (hs:sy[i]? = some (Yn cs t):=by rfl) (hB:NN l old pt i=true:=by kernel_rfl):dZ P Q l T w old sy pt a (o :: r) i :=
 .cons (VN hW hg hs rfl rfl hB ho hz rfl) hr
end
end Go.Proofs.YthdgbgleklkaiaaGreatDoor
namespace Go.Proofs.YthdgbgleklkaiaaGreatDoor.Fp
open Go.RowKit Lm
theorem p32 {a:Nat} (h:a < p):a < 256 ^ 32:=Nat.lt_trans h (by decide +kernel)
theorem KJ:UC Tryz.prog 25 32:=⟨⟨_, Tryz.underlying25, rfl⟩,by kernel_rfl⟩
theorem asz {k:IntKind} {xs:List Int} {n:Nat} (h:xs.length=n):(arr k xs).size=n:=by rw [aD,h]
end Go.Proofs.YthdgbgleklkaiaaGreatDoor.Fp
namespace Go.Proofs.YthdgbgleklkaiaaGreatDoor
open Go.RowKit
abbrev Row (k:IntKind) (R:List Int→Prop) (v:Value):Prop:=∃ zs,v = .agg (arr k zs)∧R zs
abbrev Ys (k:IntKind) (R:List Int→Prop):Sy:=⟨.soft (Row k R),none⟩
abbrev Uk (k:IntKind) (R:List Int→Prop) (t:TypeId):OP:=fun o=>∃ zs,o = .cells (arr k zs) t (0,0)∧R zs
inductive AR where
 | h (v:Value)
 | s (j:Nat) (k:IntKind) (R:List Int→Prop)
def AR.val (f:Fill):AR→Value
 | .h v=>v
 | .s j _ _=>(f j).getD undef
def AR.P:AR→Value→Prop
 | .h v,x=>x=v
 | .s _ k R,x=>Row k R x
def AR.ok (l:List Oper) (sy:List Sy) (i:Nat):AR→Prop
 | .h _=>True
 | .s j k R=>((Kc l).getD i 0).testBit j=true∧sy[j]? = some (Ys k R)
theorem AR.is {l:List Oper} {sy:List Sy} {i:Nat} {f:Fill} (kn:∀ j,((Kc l).getD i 0).testBit j=true→∃ v s',f j=some v∧sy[j]? = some s'∧s'.cl.ok f v) {A:AR} (h:A.ok l sy i):A.P (A.val f):=by
 cases A with
 | h v=>exact rfl
 | s j k R =>
  obtain ⟨h1,h2⟩:=h
  obtain ⟨v,s',hv,hs',hok⟩:=kn j h1
  rw [h2] at hs'
  cases hs'
  show Row k R ((f j).getD undef)
  rw [hv]
  exact hok
section
variable {P:Program} {Q:Exit→Act→World→Prop} {T:Nat→Prop} {w:World} {l:List Oper} {old:List (Nat×OP)} {sy:List Sy} {pt:List Put} {a:Act} {r:List Oper} {i:Nat} {o:Oper}
theorem SySr (hW:uK l sy=true) (hr:dZ P Q l T w old sy pt a r (i+1)) {ty t:TypeId} {x y:Operand} {k:IntKind} {R:List Int→Prop} {n:Nat} {p:OP} (κ j:Nat) (hR:UC P ty n) (hL:∀ zs,R zs→zs.length=n) (hb:∀ o,p o→∃ cs,o = .cells cs t (0,0)∧cs.size=n)
  (hpt:nO (know l i) i κ pt=some (Uk k R t)) (hc:cont l old sy pt i κ=some p) (hsj:sy[j]? = some (Ys k R):=by rfl) (hj:((Kc l).getD i 0).testBit j=true:=by kernel_rfl) (ho:o.op = .store ty x y:=by rfl) (hg:o.guard=none:=by rfl) (hs:sy[i]? = some Y0:=by rfl) (hrd:(iG l i x && iG l i y)=true:=by kernel_rfl) (hl:tN l old sy i κ=true:=by kernel_rfl)
  (hx:∀ f,sev l sy a f x = .pointer (some ⟨adr old f κ,0,none⟩):=by intro f;first|rfl|kernel_rfl) (hy:∀ f,sev l sy a f y=(f j).getD undef:=by intro f;first|rfl|kernel_rfl):dZ P Q l T w old sy pt a (o :: r) i :=
 .cons (Ip κ n hW hg hs rfl rfl ho hrd hl hx hc hpt hb hR.i fun f kn=>by
  obtain ⟨zs,e,hz⟩:=AR.is kn (A := .s j k R) ⟨hj,hsj⟩
  exact ⟨arr k zs,(hy f).trans e,by rw [aD,hL zs hz],ak _ _,⟨zs,rfl,hz⟩⟩) hr
theorem vN (hW:uK l sy=true) (hr:dZ P Q l T w old sy pt a r (i+1)) {F:FuncId} {x1 x2:Operand} {ts:Array TypeId} {k:IntKind} {R:List Int→Prop} (A B:AR) (h:∀ v v' u,A.P v→B.P v'→Calls P F #[v,v'] u fun e w'=>∃ zs,e = .returned (.agg (arr k zs))∧R zs∧Below u.heap.size u w')
  (hA:A.ok l sy i:=by first|trivial|exact ⟨by kernel_rfl,by rfl⟩) (hB:B.ok l sy i:=by first|trivial|exact ⟨by kernel_rfl,by rfl⟩) (ho:o.op = .call { callee := .value (.func F),args := #[x1,x2],argTypes:=ts }:=by rfl) (hg:o.guard=none:=by rfl) (hs:sy[i]? = some (Ys k R):=by rfl) (hq:gQ sy pt i=true:=by kernel_rfl) (hrd:[x1,x2].all (iG l i)=true:=by kernel_rfl)
  (hF:∀ (args:Array Value) (u:World),(callFunc F args).run P u = .ok (.enter F args) u:=by intro args u;kernel_rfl) (hv:∀ f,sev l sy a f x1=A.val f:=by intro f;first|rfl|kernel_rfl) (hv':∀ f,sev l sy a f x2=B.val f:=by intro f;first|rfl|kernel_rfl):dZ P Q l T w old sy pt a (o :: r) i :=
 .cons (zu F [x1,x2] ts hW hg hs hq ho hrd hF fun f u _ kn=>by
  refine Calls.mono (show Calls P F #[sev l sy a f x1,sev l sy a f x2] u _ from h _ _ u (by rw [hv];exact AR.is kn hA) (by rw [hv'];exact AR.is kn hB)) ?_
  rintro e w' ⟨zs,rfl,hz,hb⟩
  exact ⟨_,rfl,⟨zs,rfl,hz⟩,hb,CL.no rfl⟩) hr
theorem SyB4 (hW:uK l sy=true) (hr:dZ P Q l T w old sy pt a r (i+1)) {t:TypeId} {x1 x2 x3 x4:Operand} {k:IntKind} {R:List Int→Prop} (A B C D:AR) (h:∀ v1 v2 v3 v4,A.P v1→B.P v2→C.P v3→D.P v4→∃ zs,(∀ u,(Instr.build t #[(0,v1),(1,v2),(2,v3),(3,v4)]).run P u = .ok (.agg (arr k zs)) u)∧R zs)
  (hA:A.ok l sy i:=by first|trivial|exact ⟨by kernel_rfl,by rfl⟩) (hB:B.ok l sy i:=by first|trivial|exact ⟨by kernel_rfl,by rfl⟩) (hC:C.ok l sy i:=by first|trivial|exact ⟨by kernel_rfl,by rfl⟩) (hD:D.ok l sy i:=by first|trivial|exact ⟨by kernel_rfl,by rfl⟩)
  (ho:o.op = .build t #[(0,x1),(1,x2),(2,x3),(3,x4)]:=by rfl) (hg:o.guard=none:=by rfl) (hs:sy[i]? = some (Ys k R):=by rfl) (hq:gQ sy pt i=true:=by kernel_rfl) (hrd:([x1,x2,x3,x4].all (iG l i))=true:=by kernel_rfl)
  (h1:∀ f,sev l sy a f x1=A.val f:=by intro f;first|rfl|kernel_rfl) (h2:∀ f,sev l sy a f x2=B.val f:=by intro f;first|rfl|kernel_rfl) (h3:∀ f,sev l sy a f x3=C.val f:=by intro f;first|rfl|kernel_rfl) (h4:∀ f,sev l sy a f x4=D.val f:=by intro f;first|rfl|kernel_rfl):dZ P Q l T w old sy pt a (o :: r) i :=
 .cons (EI hW hg hs hq rfl fun f b u hJ hc hf hu jf=>by
  have kn:∀ j,((Kc l).getD i 0).testBit j=true→∃ v s',f j=some v∧sy[j]? = some s'∧s'.cl.ok f v:=fun j hj=>by
   obtain ⟨v,hv⟩:=sE ((nZ hj).up hc hu)
   obtain ⟨s',hs',hok⟩:=hJ.val j v hv
   exact ⟨v,s',hv,hs',hok⟩
  obtain ⟨zs,hrun,hz⟩:=h _ _ _ _ (AR.is kn hA) (AR.is kn hB) (AR.is kn hC) (AR.is kn hD)
  have hrd':=List.all_eq_true.1 hrd
  refine ⟨_,nU t _ ho _ ?_ _ (hrun u),⟨zs,rfl,hz⟩⟩
  show [(0,b.eval x1),(1,b.eval x2),(2,b.eval x3),(3,b.eval x4)]=_
  rw [(jr hJ hc hu jf (hrd' x1 (by simp))).trans (h1 f),(jr hJ hc hu jf (hrd' x2 (by simp))).trans (h2 f),(jr hJ hc hu jf (hrd' x3 (by simp))).trans (h3 f),(jr hJ hc hu jf (hrd' x4 (by simp))).trans (h4 f)]) hr
theorem SyG (hW:uK l sy=true) (hr:dZ P Q l T w old sy pt a r (i+1)) {v:Value} (h:∀ (u:World) (b:Act) (K:Act→World→Prop),Kept T w u→K (b.put o.dst v) u→Oper.wp P o b u K Q) (hg:o.guard=none:=by rfl) (hs:sy[i]? = some (Yv v):=by rfl) (hq:gQ sy pt i=true:=by kernel_rfl):dZ P Q l T w old sy pt a (o :: r) i :=
 .cons (fun f b u K hJ hf hc hu jf hK=>by
  rw [if_pos (fP hg)]
  exact h u b K hJ.mem.keep (hK v u (hJ.upd hW hc hf hu hs rfl (by rw [kR hf hq];exact hJ.mem) (fun _=>Below.refl _ _) (CL.no rfl)))) hr
end
theorem Holds.opn {T:Nat→Prop} {w u:World} {L:Nat→Option (Nat×OP)} (h:Holds T w u L) (κ:Nat) {g:Nat} {k:IntKind} {R:List Int→Prop} {t:TypeId} (e:L κ=some (g,Uk k R t)):∃ zs,R zs∧Holds T w u (fun j=>if j=κ then some (g,Cj (arr k zs) t) else L j):=by
 obtain ⟨⟨ob,Ka,zs,hx,hz⟩,hT⟩:=h.mem κ g _ e
 refine ⟨zs,hz,fun j g' p hj=>?_,fun j j' g' p q hj hj'=>?_,h.keep⟩
 ·by_cases c:j=κ
  ·rw [if_pos c] at hj
   cases hj
   exact ⟨⟨ob,Ka,hx⟩,hT⟩
  ·rw [if_neg c] at hj
   exact h.mem j g' p hj
 ·have A:∀ j p,(if j=κ then some (g,Cj (arr k zs) t) else L j)=some (g',p)→∃ p',L j=some (g',p'):=by
   intro j p hj
   by_cases c:j=κ
   ·rw [if_pos c] at hj
    cases hj
    exact ⟨_,c▸e⟩
   ·rw [if_neg c] at hj
    exact ⟨p,hj⟩
  obtain ⟨p',h1⟩:=A j p hj
  obtain ⟨q',h2⟩:=A j' q hj'
  exact h.inj j j' g' _ _ h1 h2
end Go.Proofs.YthdgbgleklkaiaaGreatDoor
namespace Go.Proofs.YthdgbgleklkaiaaGreatDoor
open Go.RowKit
def gB (l:List Oper) (sy:List Sy) (i:Nat) (o:Oper):Option Bool:=match o.guard with
 | some (j,true)=>if ((Kc l).getD i 0).testBit j && ((l[j]?).bind (·.dst)).isSome then (match ((sy[j]?).map Sy.cl:Option CL) with|some (CL.v (SV.c (Value.bool c)))=>some c|_=>none) else none
 | _=>none
section
variable {P:Program} {Q:Exit→Act→World→Prop} {T:Nat→Prop} {w:World} {l:List Oper} {old:List (Nat×OP)} {sy:List Sy} {pt:List Put} {a:Act} {r:List Oper} {i:Nat} {o:Oper}
theorem gB_is {f:Fill} {b:Act} {u:World} (hJ:SJ T w old sy pt f u) (hc:Closed l f) (hu:∀ j,dF l i j=true→(f j).isSome=true) (jf:uy l f a b) {c:Bool} (h:gB l sy i o=some c):Region.wanted o (yielded l.toArray b.tmps)=c:=by
 unfold gB at h
 split at h
 ·rename_i j hg
  split at h
  ·rename_i h1
   simp only [Bool.and_eq_true] at h1
   obtain ⟨h1,h2⟩:=h1
   obtain ⟨s,hs⟩:=sE h2
   split at h
   ·rename_i c' hcl
    cases h
    obtain ⟨v,hv⟩:=sE ((nZ h1).up hc hu)
    obtain ⟨s',hs',hok⟩:=hJ.val j v hv
    rw [hs'] at hcl
    simp only [abC,Option.some.injEq] at hcl
    rw [hcl] at hok
    have hok:v = .bool c:=hok
    have e:b.eval (.tmp s)=v:=jf.val j s hs hv
    rw [hok] at e
    have h3:b.tmps[s]? = some (.bool c):=by
     have h4:b.tmps.getD s undef = .bool c:=e
     rw [Array.getD_eq_getD_getElem?] at h4
     cases h5:b.tmps[s]? with
     | none=>rw [h5] at h4;cases h4
     | some v=>rw [h5] at h4;rw [show v = .bool c from h4]
    have h6:yielded l.toArray b.tmps j=some c:=by
     unfold yielded
     rw [show (l.toArray[j]?).bind (·.dst)=some s by simpa using hs]
     simp [h3]
    cases c <;> simp [Region.wanted,hg,h6]
   ·cases h
  ·cases h
 ·cases h
theorem oM (hr:dZ P Q l T w old sy pt a ({ o with guard:=none } :: r) i) (hg:gB l sy i o=some true:=by kernel_rfl):dZ P Q l T w old sy pt a (o :: r) i :=
 ⟨fun f b u K hJ hf hc hu jf hK=>by
  have h:=hr.1 f b u K hJ hf hc hu jf hK
  rw [if_pos (fP rfl)] at h
  rw [if_pos (gB_is hJ hc hu jf hg)]
  exact h,hr.2⟩
abbrev Yw (S:World→Value→Prop) (h:∀ u u' v,Below u.heap.size u u'→S u v→S u' v):Sy:=⟨.w S h,none⟩
theorem SyV (hW:uK l sy=true) (hr:dZ P Q l T w old sy pt a r (i+1)) {v:Value} (h:∀ (f:Fill) (u:World),Holds T w u (dY old (sy.map Sy.sp) pt f)→Closed l f→f i=none→(∀ j,dF l i j=true→(f j).isSome=true)→(execOp (sev l sy a f) o).run P u = .ok (.value v) u)
  (he:∀ {ρ ρ':Operand→Value},(∀ x∈o.op.operands.toList,ρ x=ρ' x)→execOp ρ o=execOp ρ' o) (hrd:o.op.operands.toList.all (iG l i)=true:=by kernel_rfl) (hg:o.guard=none:=by rfl) (hs:sy[i]? = some (Yv v):=by rfl) (hq:gQ sy pt i=true:=by kernel_rfl):dZ P Q l T w old sy pt a (o :: r) i :=
 .cons (EI hW hg hs hq rfl fun f b u hJ hc hf hu jf=>⟨v,by
  rw [he fun x hx=>jr hJ hc hu jf (List.all_eq_true.1 hrd x hx)]
  exact h f u hJ.mem hc hf hu,rfl⟩) hr
theorem SyCw (hW:uK l sy=true) (hr:dZ P Q l T w old sy pt a r (i+1)) {F:FuncId} {xs:List Operand} {ts:Array TypeId} {vs:List Value} {S:World→Value→Prop} {hS:∀ u u' v,Below u.heap.size u u'→S u v→S u' v} (h:∀ u,Kept T w u→Calls P F vs.toArray u fun e w'=>∃ v,e = .returned v∧S w' v∧Below u.heap.size u w')
  (ho:o.op = .call { callee := .value (.func F),args:=xs.toArray,argTypes:=ts }:=by rfl) (hg:o.guard=none:=by rfl) (hs:sy[i]? = some (Yw S hS):=by rfl) (hq:gQ sy pt i=true:=by kernel_rfl) (hrd:xs.all (iG l i)=true:=by kernel_rfl)
  (hF:∀ (args:Array Value) (u:World),(callFunc F args).run P u = .ok (.enter F args) u:=by intro args u;kernel_rfl) (hv:∀ f,xs.map (sev l sy a f)=vs:=by intro f;first|rfl|kernel_rfl):dZ P Q l T w old sy pt a (o :: r) i :=
 .cons (zu F xs ts hW hg hs hq ho hrd hF fun f u hJ _=>by
  rw [hv]
  refine (h u hJ.mem.keep).mono ?_
  rintro e w' ⟨v,rfl,hw,hb⟩
  exact ⟨v,rfl,trivial,hb,fun S' h' e=>by cases e;exact hw⟩) hr
def noneB (l:List Oper) (pt:List Put) (i:Nat):Bool:=pt.all fun e=>know l i e.1 == some false || e.1 == i
theorem WV {f:Fill} (hc:Closed l f) (hi:f i=none) (hu:∀ j,dF l i j=true→(f j).isSome=true) (h:noneB l pt i=true):∀ e∈pt,f e.1=none:=by
 intro e he
 have h1:=List.all_eq_true.1 h e he
 simp only [Bool.or_eq_true,beq_iff_eq] at h1
 rcases h1 with h1|h1
 ·have:=FT hc hi hu h1
  cases hx:f e.1 with
  | none=>rfl
  | some v=>rw [hx] at this;cases this
 ·rw [h1,hi]
theorem SyCv (hW:uK l sy=true) (hr:dZ P Q l T w old sy pt a r (i+1)) {F:FuncId} {xs:List Operand} {x:Operand} {ts:Array TypeId} {vs:List Value} {V:Value} {S:World→Value→Prop} {hS:∀ u u' v,Below u.heap.size u u'→S u v→S u' v} (j:Nat)
  (h:∀ u v,Kept T w u→S u v→Calls P F (vs ++ [v]).toArray u fun e w'=>e = .returned V∧Below u.heap.size u w') (hj:sy[j]? = some (Yw S hS):=by rfl) (ha:((Kc l).getD i 0).testBit j=true:=by kernel_rfl) (hn:noneB l pt i=true:=by kernel_rfl)
  (ho:o.op = .call { callee := .value (.func F),args:=(xs ++ [x]).toArray,argTypes:=ts }:=by rfl) (hg:o.guard=none:=by rfl) (hs:sy[i]? = some (Yv V):=by rfl) (hq:gQ sy pt i=true:=by kernel_rfl) (hrd:(xs ++ [x]).all (iG l i)=true:=by kernel_rfl)
  (hF:∀ (args:Array Value) (u:World),(callFunc F args).run P u = .ok (.enter F args) u:=by intro args u;kernel_rfl) (hv:∀ f,xs.map (sev l sy a f)=vs:=by intro f;first|rfl|kernel_rfl) (hx:∀ f,sev l sy a f x=(f j).getD undef:=by intro f;first|rfl|kernel_rfl):dZ P Q l T w old sy pt a (o :: r) i :=
 .cons (fun f b u K hJ hf hc hu jf hK=>by
  have hz:(xs ++ [x]).map b.eval=vs ++ [(f j).getD undef]:=by
   rw [← hv f,← hx f,abS]
   have hr':=List.all_eq_true.1 hrd
   congr 1
   ·exact abQ fun y hy=>jr hJ hc hu jf (hr' y (List.mem_append_left _ hy))
   ·simp only [abK,abI]
    rw [jr hJ hc hu jf (hr' x (by simp))]
  obtain ⟨v,hvj⟩:=sE ((nZ ha).up hc hu)
  have hSv:S u v:=hJ.wld j v _ S hS hvj hj rfl (WV hc hf hu hn)
  rw [hvj,abJ] at hz
  rw [if_pos (fP hg)]
  have h0:=fQ (P:=P) (Q:=Q) (ops := #[]) (o:=o) (b:=b) (u:=u) (K:=K) (E:=True) hg F (xs ++ [x]) ts _ ho hz hF ?_
  ·rwa [if_pos (by simp [Region.wanted,hg])] at h0
  ·refine Calls.mono (h u v hJ.mem.keep hSv) ?_
   rintro e w' ⟨rfl,hb⟩
   exact ⟨V,rfl,hK V w' (hJ.upd hW hc hf hu hs rfl (by rw [kR hf hq];exact hJ.mem.below hb) (fun _=>hb) (CL.no rfl))⟩) hr
def NP:TypeDesc→Bool
 | .struct _=>true
 | .array _ _=>true
 | _=>false
theorem CP {o:Oper} {ev:Operand→Value} {u:World} {ty:TypeId} {x:Operand} {A:Addr} {v:Value} {d:TypeDesc} (ho:o.op = .load ty x) (hx:ev x = .pointer (some A)) (hd:NP d=false) (hu:P.underlying ty=some d) (hc:u.cell? A=some v):(execOp ev o).run P u = .ok (.value v) u:=by
 have ha:(isAgg ty).run P u = .ok false u:=by
  unfold isAgg
  simp only [Sem.run_bind,run_underlying hu,Result.andThen_ok]
  cases d <;> simp_all [NP]
 have hl:(load A).run P u = .ok v u:=by simp [load,Sem.run,hc]
 simp [execOp,ho,hx,Instr.loadAt,Instr.sureAddr,asAddr,loadVar,ha,hl,Sem.run_bind,Result.andThen]
theorem JV (hW:uK l sy=true) (hr:dZ P Q l T w old sy pt a r (i+1)) {ty:TypeId} {x:Operand} {v:Value} {d:TypeDesc} (κ off:Nat) (cs:Array Value) (t:TypeId) (hcs:cs[off]? = some v) (hd:NP d=false) (hu:P.underlying ty=some d)
  (ho:o.op = .load ty x:=by rfl) (hg:o.guard=none:=by rfl) (hs:sy[i]? = some (Yv v):=by rfl) (hq:gQ sy pt i=true:=by kernel_rfl) (hrd:iG l i x=true:=by kernel_rfl) (hl:tN l old sy i κ=true:=by kernel_rfl)
  (hx:∀ f,sev l sy a f x = .pointer (some ⟨adr old f κ,off,none⟩):=by intro f;first|rfl|kernel_rfl) (hc:cont l old sy pt i κ=some (Cj cs t):=by kernel_rfl):dZ P Q l T w old sy pt a (o :: r) i :=
 .cons (EI hW hg hs hq rfl fun f b u hJ hc' hf hu' jf=>⟨v,by
  obtain ⟨⟨ob,Ka,hpo⟩, -⟩:=hJ.mem.mem κ _ _ (qC hJ hc' hf hu' hc hl)
  have hpo:ob = .cells cs t (0,0):=hpo
  subst hpo
  exact CP ho ((jr hJ hc' hu' jf hrd).trans (hx f)) hd hu (by rw [aF Ka,hcs]),rfl⟩) hr
theorem SyD (hW:uK l sy=true) (hr:dZ P Q l T w old sy pt a r (i+1)) {F:FuncId} {xs:List Operand} {ts:Array TypeId} {vs:List Value} {V:Value} (h:∀ u,Kept T w u→Calls P F vs.toArray u fun e w'=>e = .returned V∧Below u.heap.size u w')
  (ho:o.op = .call { callee := .value (.func F),args:=xs.toArray,argTypes:=ts }:=by rfl) (hg:o.guard=none:=by rfl) (hs:sy[i]? = some (Yv V):=by rfl) (hq:gQ sy pt i=true:=by kernel_rfl) (hrd:xs.all (iG l i)=true:=by kernel_rfl)
  (hF:∀ (args:Array Value) (u:World),(callFunc F args).run P u = .ok (.enter F args) u:=by intro args u;kernel_rfl) (hv:∀ f,xs.map (sev l sy a f)=vs:=by intro f;first|rfl|kernel_rfl):dZ P Q l T w old sy pt a (o :: r) i :=
 .cons (zu F xs ts hW hg hs hq ho hrd hF fun f u hJ _=>by
  rw [hv]
  refine (h u hJ.mem.keep).mono ?_
  rintro e w' ⟨rfl,hb⟩
  exact ⟨V,rfl,rfl,hb,CL.no rfl⟩) hr
theorem SySa (hW:uK l sy=true) (hr:dZ P Q l T w old sy pt a r (i+1)) {ty:TypeId} {x y:Operand} {n:Nat} {ds:Array Value} (κ:Nat) (cs:Array Value) (t:TypeId) (hi:(P.info? ty).map (·.size)=some n) (hcs:cs.size=n) (hds:ds.size=n) (hone:ds.all (·.oneCell')=true)
  (hpt:nO (know l i) i κ pt=some (Cj ds t):=by kernel_rfl) (ho:o.op = .store ty x y:=by rfl) (hg:o.guard=none:=by rfl) (hs:sy[i]? = some Y0:=by rfl) (hrd:(iG l i x && iG l i y)=true:=by kernel_rfl) (hl:tN l old sy i κ=true:=by kernel_rfl)
  (hx:∀ f,sev l sy a f x = .pointer (some ⟨adr old f κ,0,none⟩):=by intro f;first|rfl|kernel_rfl) (hy:∀ f,sev l sy a f y = .agg ds:=by intro f;first|rfl|kernel_rfl) (hc:cont l old sy pt i κ=some (Cj cs t):=by kernel_rfl):dZ P Q l T w old sy pt a (o :: r) i :=
 .cons (Ip κ n hW hg hs rfl rfl ho hrd hl hx hc hpt (fun ob h=>⟨cs,h,hcs⟩) hi fun f _=>⟨ds,hy f,hds,hone,rfl⟩) hr
end
end Go.Proofs.YthdgbgleklkaiaaGreatDoor
namespace Go.Proofs.YthdgbgleklkaiaaGreatDoor
open Go.RowKit
theorem QM {w w':World} {v v':Value} {t u:TypeId} (h:(convert t u v).run Tryz.prog w = .ok v' w'):(do pure (Next.value (← convert t u v)):Sem Next).run Tryz.prog w = .ok (.value v') w':=by
 simp only [Sem.run_bind,h,Result.andThen_ok]
 rfl
theorem FL {P:Program} {Q:Exit→Act→World→Prop} {ops:Array Oper} {o:Oper} {b:Act} {u u':World} {K:Act→World→Prop} {E:Prop} (hgd:o.guard=none) (v:Value) (hrun:(execOp b.eval o).run P u = .ok (.value v) u') (h:K (b.put o.dst v) u') :
  if Region.wanted o (yielded ops b.tmps)=true then Oper.wp P o b u K Q else E:=by
 rw [if_pos (by simp [Region.wanted,hgd])]
 unfold Oper.wp
 rw [hrun]
 exact h
theorem Ub (w:World) (g n c:Nat) (C:Array Value) (hg:w.heap[g]? = some (.cells C 5 (0,0))) :
  ∃ w',(convert 22 22 (.slice (some ⟨g,0,none⟩) n c)).run Tryz.prog w = .ok (.slice (some ⟨g,0,none⟩) n c) w'∧w'.heap[g]? = some (.cells C 5 (C.size,C.size+1))∧Kept (fun x=>x=g) w w':=by
 have hsh:w.shape? g=some (5, C.size):=by
  unfold World.shape?
  rw [hg]
 refine ⟨w.freeze ⟨g,C.size,none⟩ 1,?_,?_,?_⟩
 ·simp [convert,run_underlying Tryz.underlying22, run_underlying Tryz.underlying5, markStringish,hsh]
 ·unfold World.freeze
  rw [if_neg (by decide)]
  simp only [abT,if_true,hg,abC]
  rfl
 ·unfold World.freeze
  rw [if_neg (by decide)]
  refine ⟨rfl,rfl,rfl,by simp,fun k hk hne=>?_⟩
  simp only [abT]
  rw [if_neg (fun e=>hne e.symm)]
def Aa (a b c d:Int):Array Value := #[.int .u8 a, .int .u8 b, .int .u8 c, .int .u8 d]
theorem conv4 (w:World) (a b c d:Int):(convert 22 22 (.slice (some ⟨w.heap.size,0,none⟩) 4 4)).run Tryz.prog (w.alloc (.cells (Aa a b c d) 5)) = .ok (.slice (some ⟨w.heap.size,0,none⟩) 4 4) (w.alloc (.cells (Aa a b c d) 5 (4,5))) :=
 Lib.run_convert_bytes_const w 22 5 (Aa a b c d) 4 4 Tryz.underlying22 Tryz.underlying5
theorem src4 {u:World} {g:Nat} {a b c d:Int} {fr:Nat×Nat} (h:u.heap[g]? = some (.cells (Aa a b c d) 5 fr)):Src u (some ⟨g,0,none⟩) 4 [a,b,c,d]:=nK h rfl rfl
theorem VU {u:World} {g:Nat} {x:Int} {t:TypeId} {fr:Nat×Nat} (h:u.heap[g]? = some (.cells #[.int .i64 x] t fr)):Br u (some ⟨g,0,none⟩) 1 [x]:=by
 refine ⟨rfl,fun i hi=>⟨_,rfl,?_⟩⟩
 obtain rfl:i=0:=by omega
 rw [show (⟨g,0,none⟩:Addr).add 0=⟨g,0,none⟩ from rfl,aF h]
 rfl
end Go.Proofs.YthdgbgleklkaiaaGreatDoor
namespace Go.Proofs.YthdgbgleklkaiaaGreatDoor
open Go.RowKit
theorem R9 (w:World) (ty:TypeId) (g off m c n cs:Nat) (sa:Option Addr) (cur:Array Value) (xs:List Int) (t:TypeId) (hg:w.heap[g]? = some (.cells cur t (0,0))) (hsrc:Src w sa n xs) (hnm:n≤m) (hfit:off+n≤cur.size) :
  ∃ w',(Builtin.copy_ #[22, 22] ty #[.slice (some ⟨g,off,none⟩) m c, .slice sa n cs]).run Tryz.prog w = .ok (.int .i64 (n:Int)) w'∧w'.heap[g]? = some (.cells (cur.toList.take off ++ xs.map (Value.int .u8) ++ cur.toList.drop (off+n)).toArray t (0,0))∧Kept (fun x=>x=g) w w':=by
 have hl:=hsrc.len
 rcases Nat.eq_zero_or_pos n with h0|h0
 ·subst h0
  refine ⟨w,run_copy_none (P := Tryz.prog) w 22 22 ty 5 _ sa m c 0 cs Tryz.underlying22 (by kernel_rfl) (by simp),?_,Kept.refl _ _⟩
  rw [List.eq_nil_of_length_eq_zero hl,abI,List.append_nil,Nat.add_zero,List.take_append_drop]
  exact hg
 ·obtain ⟨ad,rfl, -⟩:=hsrc.cell 0 h0
  have hrun:=run_copy_row (P := Tryz.prog) w 22 22 ty 5 g off m c ad n cs cur t (xs.map (Value.int .u8)) Tryz.underlying22 (by kernel_rfl) hg (by rw [abL,hl];exact (Nat.min_eq_left hnm).symm) (jq hsrc _ rfl) (by rw [abL,hl];exact hfit) (mQ _ _)
  rw [abL,hl] at hrun
  exact ⟨_,hrun,setRow_heap w g _ _ t _ hg,⟨rfl,rfl,rfl,by simp [World.setRow],fun k _ hne=>setRow_other w g k _ hne⟩⟩
theorem kU {w:World} {ops:Array Oper} {o:Oper} {a:Act} {K:Act→World→Prop} {Q:Exit→Act→World→Prop} {E:Prop} (hgd:o.guard=none) (d s:Operand)
  (ho:o.op = .call { callee := .builtin .copy,args := #[d,s],argTypes := #[22, 22] }) (g off m c n cs:Nat) (sa:Option Addr) (cur:Array Value) (xs:List Int) (t:TypeId)
  (hd:a.eval d = .slice (some ⟨g,off,none⟩) m c) (hs:a.eval s = .slice sa n cs) (hg:w.heap[g]? = some (.cells cur t (0,0))) (hsrc:Src w sa n xs) (hnm:n≤m) (hfit:off+n≤cur.size)
  (h:∀ w',w'.heap[g]? = some (.cells (cur.toList.take off ++ xs.map (Value.int .u8) ++ cur.toList.drop (off+n)).toArray t (0,0))→Kept (fun x=>x=g) w w'→K (a.put o.dst (.int .i64 (n:Int))) w') :
  if Region.wanted o (yielded ops a.tmps)=true then Oper.wp Tryz.prog o a w K Q else E:=by
 rw [if_pos (by simp [Region.wanted,hgd])]
 obtain ⟨w',hrun,h1,h2⟩:=R9 w o.type g off m c n cs sa cur xs t hg hsrc hnm hfit
 unfold Oper.wp execOp
 simp only [ho,resolve,invoke,builtin,Sem.run_bind,Sem.run_pure,Result.andThen_ok,abU,abK,abI,hd,hs,hrun]
 exact h w' h1 h2
end Go.Proofs.YthdgbgleklkaiaaGreatDoor
namespace Go.Proofs.YthdgbgleklkaiaaGreatDoor.Wr
open Go.RowKit
theorem XF:(Tryz.prog.info? 5).map (fun i=>(i.zero,i.size,i.bytes))=some (some (.int .u8 0),1,1):=by kernel_rfl
theorem xG {w:World} {ops:Array Oper} {o:Oper} {a:Act} {K:Act→World→Prop} {Q:Exit→Act→World→Prop} {E:Prop} (hgd:o.guard=none) (s x:Operand)
  (ho:o.op = .call { callee := .builtin .append,args := #[s,x],argTypes := #[22, 22] }) (g n m c:Nat) (a2:Addr) (xs ys:List Int) (hs:a.eval s = .slice (some ⟨g,0,none⟩) n n) (hx:a.eval x = .slice (some a2) m c)
  (h1:Src w (some ⟨g,0,none⟩) n xs) (h2:Src w (some a2) m ys) (hm:0 < m) (hle:n+m≤1099511627776)
  (h:∀ g' cap w',Src w' (some ⟨g',0,none⟩) (n+m) (xs ++ ys)→n+m≤cap→Below w.heap.size w w'→K (a.put o.dst (.slice (some ⟨g',0,none⟩) (n+m) cap)) w') :
  if Region.wanted o (yielded ops a.tmps)=true then Oper.wp Tryz.prog o a w K Q else E:=by
 have hw:Region.wanted o (yielded ops a.tmps)=true:=by simp [Region.wanted,hgd]
 rw [if_pos hw]
 obtain ⟨i0,hi,hz⟩:=Option.map_eq_some_iff.1 XF
 simp only [Prod.mk.injEq] at hz
 obtain ⟨z0,z1,z2⟩:=hz
 obtain ⟨v',w',hrun,hown,hgr⟩:=run_append_arg_grows (P := Tryz.prog) w 22 o.type 5 i0 (.int .u8 0) 1 1 Tryz.underlying22 hi z0 z1 z2 rfl (by decide) ⟨g,0,none⟩ n n (xs.map (Value.int .u8)) (by simp [h1.len]) (jq h1 _ rfl) a2 m c (ys.map (Value.int .u8)) (by simp [h2.len]) (jq h2 _ rfl) (by omega) (by unfold maxLen;omega) (by omega)
 have hb:Below w.heap.size w w':=⟨hgr.os,hgr.tape,hgr.output,hgr.size,fun k hk=>hgr.block k hk (by simp)⟩
 unfold Oper.wp execOp
 simp only [ho,resolve,invoke,builtin,Sem.run_bind,Sem.run_pure,Result.andThen_ok,abU,abK,abI,hs,hx,hrun]
 rcases hown.2 with ⟨-, h0⟩|⟨g',cap,cur,rfl, -, -, hcap, -⟩
 ·exact absurd h0 (by omega)
 ·refine h g' cap w' ⟨by rw [abV,h1.len,h2.len],fun j hj=>⟨_,rfl,?_⟩⟩ hcap hb
  rw [← abS] at hown
  refine World.ownsRow.cells hown (g:=g') rfl j _ ?_
  have hj2:j < (xs ++ ys).length:=by rw [abV,h1.len,h2.len];exact hj
  rw [abD,List.getD,abF hj2]
  rfl
end Go.Proofs.YthdgbgleklkaiaaGreatDoor.Wr
namespace Go.Proofs.YthdgbgleklkaiaaGreatDoor
open Go.RowKit
theorem bO.also {w u:World} {l:List (Nat×Array Value×TypeId)} (h:bO w u l) {g:Nat} {c:Array Value} {t:TypeId} (hg:u.heap[g]? = some (.cells c t (0,0))) (hl:w.heap.size≤g) (hne:∀ (i:Nat) (e:Nat×Array Value×TypeId),l[i]? = some e→e.1≠g):bO w u (l ++ [(g,c,t)]):=by
 refine ⟨fun i g' c' t' hi=>?_,fun i j g' c' t' c2 t2 hi hj=>?_,h.below⟩
 ·rw [abW] at hi
  split at hi
  ·exact h.mem i g' c' t' hi
  ·have:=abH hi
   simp only [abM,Prod.mk.injEq] at this
   obtain ⟨rfl,rfl,rfl⟩:=this
   exact ⟨hg,hl⟩
 ·rw [abW] at hi hj
  split at hi <;> split at hj
  ·exact h.inj i j g' c' t' c2 t2 hi hj
  ·have:=abH hj
   simp only [abM,Prod.mk.injEq] at this
   exact absurd this.1 (hne _ _ hi)
  ·have:=abH hi
   simp only [abM,Prod.mk.injEq] at this
   exact absurd this.1 (hne _ _ hj)
  ·have h1:=(List.getElem?_eq_some_iff.1 hi).1
   have h2:=(List.getElem?_eq_some_iff.1 hj).1
   simp at h1 h2
   omega
theorem bO.own {w u u':World} {l:List (Nat×Array Value×TypeId)} {v:Value} {xs:List Int} (h:bO w u l) (ho:aU u' u.heap.size v xs) (hb:Below u.heap.size u u') (hp:0 < xs.length) :
  ∃ (g cap:Nat) (cur:Array Value),v = .slice (some ⟨g,0,none⟩) xs.length cap∧xs.length≤cap∧bO w u' (l ++ [(g,cur, 5)])∧(∀ z:World,z.heap[g]? = some (.cells cur 5 (0,0))→Src z (some ⟨g,0,none⟩) xs.length xs):=by
 obtain ⟨-, h2⟩:=ho
 rcases h2 with ⟨rfl,h0⟩|⟨g,cap,cur,rfl,hB,hg,hn,hm,hs,ht⟩
 ·omega
 ·refine ⟨g,cap,cur,rfl,hn,(h.kept hb).also hg (Nat.le_trans h.below.size hB) (fun i e hi=>?_),fun z hz=>nK hz ht rfl⟩
  have:=h.lt i (g:=e.1) (c:=e.2.1) (t:=e.2.2) hi
  omega
end Go.Proofs.YthdgbgleklkaiaaGreatDoor
