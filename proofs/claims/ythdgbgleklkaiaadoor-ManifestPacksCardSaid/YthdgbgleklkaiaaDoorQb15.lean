/- 32 bytes and the number that they are; Plain facts on bytes as numbers. The clamping of a key, in plain words. A field's number as four cells, as 32 bytes, for regions told in symb. Condition: as each theorem says. -/
import Derived.Deep.LoopGhost
import Derived.Test.YthdgbgleklkaiaaDoorQb03
import Derived.Test.YthdgbgleklkaiaaDoorQb04
import Derived.Test.YthdgbgleklkaiaaDoorQb05
import Derived.Test.YthdgbgleklkaiaaDoorQb06
import Derived.Test.YthdgbgleklkaiaaDoorQb07
import Derived.Test.YthdgbgleklkaiaaDoorQb14
open Go.Lib renaming hid→acD
open List renaming length_append→acE,replicate→acG,append_assoc→acH,length_set→acM,getD→acN,length_singleton→acP,map_append→acV,length_cons→acZ,length_replicate→adA
open Nat renaming mod_eq_of_lt→acF,le_trans→acI,lt_of_lt_of_le→acK,mod_lt→acL,div_div_eq_div_mul→acO,pow_mod→acQ,pow_add→acR,mod_add_div→acU
open BitVec renaming ofInt→acJ
set_option linter.unusedSimpArgs false
set_option linter.unusedVariables false
set_option maxRecDepth 100000
set_option maxHeartbeats 16000000
namespace Go.Proofs.YthdgbgleklkaiaaDoor.Sl
open Go.RowKit Lm Fp Sc
theorem zero_num (w:World):(zeroValue 23).run Tryd.prog w = .ok (.agg (arr .u8 (acG 32 0))) w:=by kernel_rfl
theorem pG:(Tryd.prog.info? 23).map (·.size)=some 32:=by kernel_rfl
theorem bE {xs:List Int} (h:xs.length=32):(Tryd.prog.info? 23).map (·.size)=some (arr .u8 xs).size:=by rw [aD,h];exact pG
theorem bU {xs:List Int} (h:xs.length=32):(Tryd.prog.info? 23).map (·.size)=some xs.length:=by rw [h];exact pG
def Nv (ks:List Int) (a:Nat):Prop:=ks=aW (bD 256 32 a)∧a < 256 ^ 32
theorem Nv.len {ks:List Int} {a:Nat} (h:Nv ks a):ks.length=32:=by rw [h.1,aJ,aK]
theorem Nv.cast {ks:List Int} {a b:Nat} (h:Nv ks a) (e:a=b):Nv ks b:=e▸h
end Go.Proofs.YthdgbgleklkaiaaDoor.Sl
namespace Go.Proofs.YthdgbgleklkaiaaDoor.Sl
open Go.RowKit Lm Fp
theorem Nv.inj {xs ys:List Int} {a b:Nat} (hx:Nv xs a) (hy:Nv ys b):(xs == ys)=decide (a=b):=by
 obtain ⟨rfl,h1⟩:=hx
 obtain ⟨rfl,h2⟩:=hy
 by_cases e:a=b
 ·subst e;simp
 ·rw [decide_eq_false e,beq_eq_false_iff_ne]
  intro h
  have h3:bD 256 32 a=bD 256 32 b:=by
   have:=congrArg (List.map Int.toNat) h
   have e:∀ l:List Nat,(aW l).map Int.toNat=l:=fun l=>by rw [aW,List.map_map];exact List.map_id l
   rwa [e,e] at this
  have h4:=congrArg (val 256) h3
  rw [fA,fA,acF h1,acF h2] at h4
  exact e h4
end Go.Proofs.YthdgbgleklkaiaaDoor.Sl
namespace Go.Proofs.YthdgbgleklkaiaaDoor.Rd
open Go.RowKit Lm Fp Cu
theorem and248:∀ x:Nat,x < 256→bits .and .u8 (x:Int) 248=((x / 8 * 8:Nat):Int):=by decide +kernel
theorem or64:∀ x:Nat,x < 256→bits .or .u8 (bits .and .u8 (x:Int) 127) 64=((x % 64+64:Nat):Int):=by decide +kernel
theorem TF (v:Nat) (hv:v < 2 ^ 256):((bD 256 32 v).set 0 (v % 256 / 8 * 8)).set 31 (v / 256 ^ 31 % 64+64)=bD 256 32 (clamp v):=by
 have hlt:v / 256 ^ 31 < 256:=Nat.div_lt_of_lt_mul (acK hv (by decide))
 have hcl:clamp v < 256 ^ 32:=by
  unfold clamp
  have:=acL (v / 8 * 8) (show 0 < 2 ^ 254 by decide)
  exact acK (Nat.add_lt_add_right this _) (by decide)
 have l0:v % 256 / 8 * 8 < 256:=by omega
 have l1:∀ x∈(bD 256 32 v).set 0 (v % 256 / 8 * 8),x < 256:=jI (ig 256 (by decide) _ _) _ _ l0
 refine qp 256 (by decide) 32 _ _ (by rw [acM,acM,aK]) (jI l1 _ _ (by omega)) ?_
 have h0:=nH 256 (bD 256 32 v) 0 (v % 256 / 8 * 8) (by rw [aK];decide)
 have h1:=nH 256 ((bD 256 32 v).set 0 (v % 256 / 8 * 8)) 31 (v / 256 ^ 31 % 64+64) (by rw [acM,aK];decide)
 have MJ:((bD 256 32 v).set 0 (v % 256 / 8 * 8)).getD 31 0=v / 256 ^ 31:=by
  simp only [acN]
  rw [List.getElem?_set_ne (by decide)]
  have:=dz 256 32 v 31 (by decide)
  rw [acF hlt] at this
  simpa [acN] using this
 have g0:(bD 256 32 v).getD 0 0=v % 256:=by rw [dz _ _ _ _ (by decide)];simp
 have hv32:v % 256 ^ 32=v:=acF (acK hv (by decide))
 rw [g0,fA,hv32,Nat.pow_zero,Nat.one_mul,Nat.one_mul] at h0
 rw [MJ] at h1
 have e1:clamp v=v / 8 * 8 % 2 ^ 254+2 ^ 254:=rfl
 have e3:v / 8 * 8 / 2 ^ 254=v / 256 ^ 31 / 64:=by
  rw [show (2:Nat) ^ 254=8 * 2 ^ 251 by decide,← acO,Nat.mul_div_cancel _ (by decide),acO,acO]
 have e2:=acU (v / 8 * 8) (2 ^ 254)
 have e4:=acU (v / 256 ^ 31) 64
 rw [e3] at e2
 clear MJ g0
 generalize v / 256 ^ 31=t at *
 rw [e1]
 have k1:(256:Nat) ^ 31=452312848583266388373324160190187140051835877600158453279131187530910662656:=by decide
 have k2:(2:Nat) ^ 254=28948022309329048855892746252171976963317496166410141009864396001978282409984:=by decide
 rw [k1] at h1
 rw [k2] at e2 ⊢
 have e5:v % 256 / 8 * 8+(v - v % 256)=v / 8 * 8:=by omega
 have e6:v % 256≤v:=Nat.mod_le _ _
 omega
end Go.Proofs.YthdgbgleklkaiaaDoor.Rd
namespace Go.Proofs.YthdgbgleklkaiaaDoor.Fp
open Go.RowKit Lm
theorem p32 {a:Nat} (h:a < p):a < 256 ^ 32:=Nat.lt_trans h (by decide +kernel)
theorem Kn:Ud Tryd.prog 23 32:=⟨⟨_, Tryd.underlying23, rfl⟩,by kernel_rfl⟩
theorem asz {k:IntKind} {xs:List Int} {n:Nat} (h:xs.length=n):(arr k xs).size=n:=by rw [aD,h]
end Go.Proofs.YthdgbgleklkaiaaDoor.Fp
namespace Go.Proofs.YthdgbgleklkaiaaDoor.Sl
open Go.RowKit Lm Fp Cu Rd
theorem cpt_len {a b c d:List Int} (ha:a.length=4) (hb:b.length=4) (hc:c.length=4) (hd:d.length=4):(a ++ b ++ c ++ d).length=16:=by simp [ha,hb,hc,hd]
def ptl (P:Pt):List Int:=aW (bD 18446744073709551616 4 P.x) ++ aW (bD 18446744073709551616 4 P.y) ++ aW (bD 18446744073709551616 4 P.z) ++ aW (bD 18446744073709551616 4 P.t)
theorem ptl_len (P:Pt):(ptl P).length=16:=cpt_len ((aJ _).trans (aK _ _ _)) ((aJ _).trans (aK _ _ _)) ((aJ _).trans (aK _ _ _)) ((aJ _).trans (aK _ _ _))
def P4 (ps:List Int) (P:Pt):Prop:=ps=ptl P∧P.Ok
theorem P4.len {ps:List Int} {P:Pt} (h:P4 ps P):ps.length=16:=by rw [h.1];exact ptl_len P
theorem P4.cast {ps:List Int} {P Q:Pt} (h:P4 ps P) (e:P=Q):P4 ps Q:=e▸h
end Go.Proofs.YthdgbgleklkaiaaDoor.Sl
namespace Go.Proofs.YthdgbgleklkaiaaDoor
open Go.RowKit
abbrev Row (k:IntKind) (R:List Int→Prop) (v:Value):Prop:=∃ zs,v = .agg (arr k zs)∧R zs
abbrev Ys (k:IntKind) (R:List Int→Prop):Sy:=⟨.soft (Row k R),none⟩
abbrev TM (k:IntKind) (R:List Int→Prop) (t:TypeId):OP:=fun o=>∃ zs,o = .cells (arr k zs) t (0,0)∧R zs
inductive AR where
 | h (v:Value)
 | s (j:Nat) (k:IntKind) (R:List Int→Prop)
def AR.val (f:Fill):AR→Value
 | .h v=>v
 | .s j _ _=>(f j).getD undef
def AR.P:AR→Value→Prop
 | .h v,x=>x=v
 | .s _ k R,x=>Row k R x
def AR.ok (l:List Oper) (sy:List Sy) (i:Nat):AR→Prop
 | .h _=>True
 | .s j k R=>((JV l).getD i 0).testBit j=true∧sy[j]? = some (Ys k R)
theorem AR.is {l:List Oper} {sy:List Sy} {i:Nat} {f:Fill} (kn:∀ j,((JV l).getD i 0).testBit j=true→∃ v s',f j=some v∧sy[j]? = some s'∧s'.cl.ok f v) {A:AR} (h:A.ok l sy i):A.P (A.val f):=by
 cases A with
 | h v=>exact rfl
 | s j k R =>
  obtain ⟨h1,h2⟩:=h
  obtain ⟨v,s',hv,hs',hok⟩:=kn j h1
  rw [h2] at hs'
  cases hs'
  show Row k R ((f j).getD undef)
  rw [hv]
  exact hok
section
variable {P:Program} {Q:Exit→Act→World→Prop} {T:Nat→Prop} {w:World} {l:List Oper} {old:List (Nat×OP)} {sy:List Sy} {pt:List Put} {a:Act} {r:List Oper} {i:Nat} {o:Oper}
theorem SySr (hW:uZ l sy=true) (hr:dW P Q l T w old sy pt a r (i+1)) {ty t:TypeId} {x y:Operand} {k:IntKind} {R:List Int→Prop} {n:Nat} {p:OP} (κ j:Nat) (hR:Ud P ty n) (hL:∀ zs,R zs→zs.length=n) (hb:∀ o,p o→∃ cs,o = .cells cs t (0,0)∧cs.size=n)
  (hpt:nP (know l i) i κ pt=some (TM k R t)) (hc:cont l old sy pt i κ=some p) (hsj:sy[j]? = some (Ys k R):=by rfl) (hj:((JV l).getD i 0).testBit j=true:=by kernel_rfl) (ho:o.op = .store ty x y:=by rfl) (hg:o.guard=none:=by rfl) (hs:sy[i]? = some Y0:=by rfl) (hrd:(iD l i x && iD l i y)=true:=by kernel_rfl) (hl:uy l old sy i κ=true:=by kernel_rfl)
  (hx:∀ f,sev l sy a f x = .pointer (some ⟨adr old f κ,0,none⟩):=by intro f;first|rfl|kernel_rfl) (hy:∀ f,sev l sy a f y=(f j).getD undef:=by intro f;first|rfl|kernel_rfl):dW P Q l T w old sy pt a (o :: r) i :=
 .cons (Hl κ n hW hg hs rfl rfl ho hrd hl hx hc hpt hb hR.i fun f kn=>by
  obtain ⟨zs,e,hz⟩:=AR.is kn (A := .s j k R) ⟨hj,hsj⟩
  exact ⟨arr k zs,(hy f).trans e,by rw [aD,hL zs hz],av _ _,⟨zs,rfl,hz⟩⟩) hr
theorem vZ (hW:uZ l sy=true) (hr:dW P Q l T w old sy pt a r (i+1)) {F:FuncId} {x1 x2:Operand} {ts:Array TypeId} {k:IntKind} {R:List Int→Prop} (A B:AR) (h:∀ v v' u,A.P v→B.P v'→Calls P F #[v,v'] u fun e w'=>∃ zs,e = .returned (.agg (arr k zs))∧R zs∧Below u.heap.size u w')
  (hA:A.ok l sy i:=by first|trivial|exact ⟨by kernel_rfl,by rfl⟩) (hB:B.ok l sy i:=by first|trivial|exact ⟨by kernel_rfl,by rfl⟩) (ho:o.op = .call { callee := .value (.func F),args := #[x1,x2],argTypes:=ts }:=by rfl) (hg:o.guard=none:=by rfl) (hs:sy[i]? = some (Ys k R):=by rfl) (hq:gM sy pt i=true:=by kernel_rfl) (hrd:[x1,x2].all (iD l i)=true:=by kernel_rfl)
  (hF:∀ (args:Array Value) (u:World),(callFunc F args).run P u = .ok (.enter F args) u:=by intro args u;kernel_rfl) (hv:∀ f,sev l sy a f x1=A.val f:=by intro f;first|rfl|kernel_rfl) (hv':∀ f,sev l sy a f x2=B.val f:=by intro f;first|rfl|kernel_rfl):dW P Q l T w old sy pt a (o :: r) i :=
 .cons (zC F [x1,x2] ts hW hg hs hq ho hrd hF fun f u _ kn=>by
  refine Calls.mono (show Calls P F #[sev l sy a f x1,sev l sy a f x2] u _ from h _ _ u (by rw [hv];exact AR.is kn hA) (by rw [hv'];exact AR.is kn hB)) ?_
  rintro e w' ⟨zs,rfl,hz,hb⟩
  exact ⟨_,rfl,⟨zs,rfl,hz⟩,hb,CL.no rfl⟩) hr
theorem SyB4 (hW:uZ l sy=true) (hr:dW P Q l T w old sy pt a r (i+1)) {t:TypeId} {x1 x2 x3 x4:Operand} {k:IntKind} {R:List Int→Prop} (A B C D:AR) (h:∀ v1 v2 v3 v4,A.P v1→B.P v2→C.P v3→D.P v4→∃ zs,(∀ u,(Instr.build t #[(0,v1),(1,v2),(2,v3),(3,v4)]).run P u = .ok (.agg (arr k zs)) u)∧R zs)
  (hA:A.ok l sy i:=by first|trivial|exact ⟨by kernel_rfl,by rfl⟩) (hB:B.ok l sy i:=by first|trivial|exact ⟨by kernel_rfl,by rfl⟩) (hC:C.ok l sy i:=by first|trivial|exact ⟨by kernel_rfl,by rfl⟩) (hD:D.ok l sy i:=by first|trivial|exact ⟨by kernel_rfl,by rfl⟩)
  (ho:o.op = .build t #[(0,x1),(1,x2),(2,x3),(3,x4)]:=by rfl) (hg:o.guard=none:=by rfl) (hs:sy[i]? = some (Ys k R):=by rfl) (hq:gM sy pt i=true:=by kernel_rfl) (hrd:([x1,x2,x3,x4].all (iD l i))=true:=by kernel_rfl)
  (h1:∀ f,sev l sy a f x1=A.val f:=by intro f;first|rfl|kernel_rfl) (h2:∀ f,sev l sy a f x2=B.val f:=by intro f;first|rfl|kernel_rfl) (h3:∀ f,sev l sy a f x3=C.val f:=by intro f;first|rfl|kernel_rfl) (h4:∀ f,sev l sy a f x4=D.val f:=by intro f;first|rfl|kernel_rfl):dW P Q l T w old sy pt a (o :: r) i :=
 .cons (EF hW hg hs hq rfl fun f b u hJ hc hf hu jc=>by
  have kn:∀ j,((JV l).getD i 0).testBit j=true→∃ v s',f j=some v∧sy[j]? = some s'∧s'.cl.ok f v:=fun j hj=>by
   obtain ⟨v,hv⟩:=sE ((om hj).up hc hu)
   obtain ⟨s',hs',hok⟩:=hJ.val j v hv
   exact ⟨v,s',hv,hs',hok⟩
  obtain ⟨zs,hrun,hz⟩:=h _ _ _ _ (AR.is kn hA) (AR.is kn hB) (AR.is kn hC) (AR.is kn hD)
  have hrd':=List.all_eq_true.1 hrd
  refine ⟨_,nZ t _ ho _ ?_ _ (hrun u),⟨zs,rfl,hz⟩⟩
  show [(0,b.eval x1),(1,b.eval x2),(2,b.eval x3),(3,b.eval x4)]=_
  rw [(jl hJ hc hu jc (hrd' x1 (by simp))).trans (h1 f),(jl hJ hc hu jc (hrd' x2 (by simp))).trans (h2 f),(jl hJ hc hu jc (hrd' x3 (by simp))).trans (h3 f),(jl hJ hc hu jc (hrd' x4 (by simp))).trans (h4 f)]) hr
theorem SyG (hW:uZ l sy=true) (hr:dW P Q l T w old sy pt a r (i+1)) {v:Value} (h:∀ (u:World) (b:Act) (K:Act→World→Prop),Kept T w u→K (b.put o.dst v) u→Oper.wp P o b u K Q) (hg:o.guard=none:=by rfl) (hs:sy[i]? = some (Yv v):=by rfl) (hq:gM sy pt i=true:=by kernel_rfl):dW P Q l T w old sy pt a (o :: r) i :=
 .cons (fun f b u K hJ hf hc hu jc hK=>by
  rw [if_pos (fP hg)]
  exact h u b K hJ.mem.keep (hK v u (hJ.upd hW hc hf hu hs rfl (by rw [kY hf hq];exact hJ.mem) (fun _=>Below.refl _ _) (CL.no rfl)))) hr
end
theorem Holds.opn {T:Nat→Prop} {w u:World} {L:Nat→Option (Nat×OP)} (h:Holds T w u L) (κ:Nat) {g:Nat} {k:IntKind} {R:List Int→Prop} {t:TypeId} (e:L κ=some (g,TM k R t)):∃ zs,R zs∧Holds T w u (fun j=>if j=κ then some (g,Cr (arr k zs) t) else L j):=by
 obtain ⟨⟨ob,JR,zs,hx,hz⟩,hT⟩:=h.mem κ g _ e
 refine ⟨zs,hz,fun j g' p hj=>?_,fun j j' g' p q hj hj'=>?_,h.keep⟩
 ·by_cases c:j=κ
  ·rw [if_pos c] at hj
   cases hj
   exact ⟨⟨ob,JR,hx⟩,hT⟩
  ·rw [if_neg c] at hj
   exact h.mem j g' p hj
 ·have A:∀ j p,(if j=κ then some (g,Cr (arr k zs) t) else L j)=some (g',p)→∃ p',L j=some (g',p'):=by
   intro j p hj
   by_cases c:j=κ
   ·rw [if_pos c] at hj
    cases hj
    exact ⟨_,c▸e⟩
   ·rw [if_neg c] at hj
    exact ⟨p,hj⟩
  obtain ⟨p',h1⟩:=A j p hj
  obtain ⟨q',h2⟩:=A j' q hj'
  exact h.inj j j' g' _ _ h1 h2
end Go.Proofs.YthdgbgleklkaiaaDoor
namespace Go.Proofs.YthdgbgleklkaiaaDoor
open Go.RowKit
def gB (l:List Oper) (sy:List Sy) (i:Nat) (o:Oper):Option Bool:=match o.guard with
 | some (j,true)=>if ((JV l).getD i 0).testBit j && ((l[j]?).bind (·.dst)).isSome then (match ((sy[j]?).map Sy.cl:Option CL) with|some (CL.v (SV.c (Value.bool c)))=>some c|_=>none) else none
 | _=>none
section
variable {P:Program} {Q:Exit→Act→World→Prop} {T:Nat→Prop} {w:World} {l:List Oper} {old:List (Nat×OP)} {sy:List Sy} {pt:List Put} {a:Act} {r:List Oper} {i:Nat} {o:Oper}
theorem gB_is {f:Fill} {b:Act} {u:World} (hJ:SJ T w old sy pt f u) (hc:Closed l f) (hu:∀ j,dB l i j=true→(f j).isSome=true) (jc:uS l f a b) {c:Bool} (h:gB l sy i o=some c):Region.wanted o (yielded l.toArray b.tmps)=c:=by
 unfold gB at h
 split at h
 ·rename_i j hg
  split at h
  ·rename_i h1
   simp only [Bool.and_eq_true] at h1
   obtain ⟨h1,h2⟩:=h1
   obtain ⟨s,hs⟩:=sE h2
   split at h
   ·rename_i c' hcl
    cases h
    obtain ⟨v,hv⟩:=sE ((om h1).up hc hu)
    obtain ⟨s',hs',hok⟩:=hJ.val j v hv
    rw [hs'] at hcl
    simp only [Option.map_some,Option.some.injEq] at hcl
    rw [hcl] at hok
    have hok:v = .bool c:=hok
    have e:b.eval (.tmp s)=v:=jc.val j s hs hv
    rw [hok] at e
    have h3:b.tmps[s]? = some (.bool c):=by
     have h4:b.tmps.getD s undef = .bool c:=e
     rw [Array.getD_eq_getD_getElem?] at h4
     cases h5:b.tmps[s]? with
     | none=>rw [h5] at h4;cases h4
     | some v=>rw [h5] at h4;rw [show v = .bool c from h4]
    have h6:yielded l.toArray b.tmps j=some c:=by
     unfold yielded
     rw [show (l.toArray[j]?).bind (·.dst)=some s by simpa using hs]
     simp [h3]
    cases c <;> simp [Region.wanted,hg,h6]
   ·cases h
  ·cases h
 ·cases h
theorem o8 (hr:dW P Q l T w old sy pt a ({ o with guard:=none } :: r) i) (hg:gB l sy i o=some true:=by kernel_rfl):dW P Q l T w old sy pt a (o :: r) i :=
 ⟨fun f b u K hJ hf hc hu jc hK=>by
  have h:=hr.1 f b u K hJ hf hc hu jc hK
  rw [if_pos (fP rfl)] at h
  rw [if_pos (gB_is hJ hc hu jc hg)]
  exact h,hr.2⟩
abbrev Yw (S:World→Value→Prop) (h:∀ u u' v,Below u.heap.size u u'→S u v→S u' v):Sy:=⟨.w S h,none⟩
theorem SyV (hW:uZ l sy=true) (hr:dW P Q l T w old sy pt a r (i+1)) {v:Value} (h:∀ (f:Fill) (u:World),Holds T w u (dV old (sy.map Sy.sp) pt f)→Closed l f→f i=none→(∀ j,dB l i j=true→(f j).isSome=true)→(execOp (sev l sy a f) o).run P u = .ok (.value v) u)
  (he:∀ {ρ ρ':Operand→Value},(∀ x∈o.op.operands.toList,ρ x=ρ' x)→execOp ρ o=execOp ρ' o) (hrd:o.op.operands.toList.all (iD l i)=true:=by kernel_rfl) (hg:o.guard=none:=by rfl) (hs:sy[i]? = some (Yv v):=by rfl) (hq:gM sy pt i=true:=by kernel_rfl):dW P Q l T w old sy pt a (o :: r) i :=
 .cons (EF hW hg hs hq rfl fun f b u hJ hc hf hu jc=>⟨v,by
  rw [he fun x hx=>jl hJ hc hu jc (List.all_eq_true.1 hrd x hx)]
  exact h f u hJ.mem hc hf hu,rfl⟩) hr
theorem SyCw (hW:uZ l sy=true) (hr:dW P Q l T w old sy pt a r (i+1)) {F:FuncId} {xs:List Operand} {ts:Array TypeId} {vs:List Value} {S:World→Value→Prop} {hS:∀ u u' v,Below u.heap.size u u'→S u v→S u' v} (h:∀ u,Kept T w u→Calls P F vs.toArray u fun e w'=>∃ v,e = .returned v∧S w' v∧Below u.heap.size u w')
  (ho:o.op = .call { callee := .value (.func F),args:=xs.toArray,argTypes:=ts }:=by rfl) (hg:o.guard=none:=by rfl) (hs:sy[i]? = some (Yw S hS):=by rfl) (hq:gM sy pt i=true:=by kernel_rfl) (hrd:xs.all (iD l i)=true:=by kernel_rfl)
  (hF:∀ (args:Array Value) (u:World),(callFunc F args).run P u = .ok (.enter F args) u:=by intro args u;kernel_rfl) (hv:∀ f,xs.map (sev l sy a f)=vs:=by intro f;first|rfl|kernel_rfl):dW P Q l T w old sy pt a (o :: r) i :=
 .cons (zC F xs ts hW hg hs hq ho hrd hF fun f u hJ _=>by
  rw [hv]
  refine (h u hJ.mem.keep).mono ?_
  rintro e w' ⟨v,rfl,hw,hb⟩
  exact ⟨v,rfl,trivial,hb,fun S' h' e=>by cases e;exact hw⟩) hr
def noneB (l:List Oper) (pt:List Put) (i:Nat):Bool:=pt.all fun e=>know l i e.1 == some false || e.1 == i
theorem Wt {f:Fill} (hc:Closed l f) (hi:f i=none) (hu:∀ j,dB l i j=true→(f j).isSome=true) (h:noneB l pt i=true):∀ e∈pt,f e.1=none:=by
 intro e he
 have h1:=List.all_eq_true.1 h e he
 simp only [Bool.or_eq_true,beq_iff_eq] at h1
 rcases h1 with h1|h1
 ·have:=Fj hc hi hu h1
  cases hx:f e.1 with
  | none=>rfl
  | some v=>rw [hx] at this;cases this
 ·rw [h1,hi]
theorem SyCv (hW:uZ l sy=true) (hr:dW P Q l T w old sy pt a r (i+1)) {F:FuncId} {xs:List Operand} {x:Operand} {ts:Array TypeId} {vs:List Value} {V:Value} {S:World→Value→Prop} {hS:∀ u u' v,Below u.heap.size u u'→S u v→S u' v} (j:Nat)
  (h:∀ u v,Kept T w u→S u v→Calls P F (vs ++ [v]).toArray u fun e w'=>e = .returned V∧Below u.heap.size u w') (hj:sy[j]? = some (Yw S hS):=by rfl) (ha:((JV l).getD i 0).testBit j=true:=by kernel_rfl) (hn:noneB l pt i=true:=by kernel_rfl)
  (ho:o.op = .call { callee := .value (.func F),args:=(xs ++ [x]).toArray,argTypes:=ts }:=by rfl) (hg:o.guard=none:=by rfl) (hs:sy[i]? = some (Yv V):=by rfl) (hq:gM sy pt i=true:=by kernel_rfl) (hrd:(xs ++ [x]).all (iD l i)=true:=by kernel_rfl)
  (hF:∀ (args:Array Value) (u:World),(callFunc F args).run P u = .ok (.enter F args) u:=by intro args u;kernel_rfl) (hv:∀ f,xs.map (sev l sy a f)=vs:=by intro f;first|rfl|kernel_rfl) (hx:∀ f,sev l sy a f x=(f j).getD undef:=by intro f;first|rfl|kernel_rfl):dW P Q l T w old sy pt a (o :: r) i :=
 .cons (fun f b u K hJ hf hc hu jc hK=>by
  have hz:(xs ++ [x]).map b.eval=vs ++ [(f j).getD undef]:=by
   rw [← hv f,← hx f,acV]
   have hr':=List.all_eq_true.1 hrd
   congr 1
   ·exact List.map_congr_left fun y hy=>jl hJ hc hu jc (hr' y (List.mem_append_left _ hy))
   ·simp only [List.map_cons,List.map_nil]
    rw [jl hJ hc hu jc (hr' x (by simp))]
  obtain ⟨v,hvj⟩:=sE ((om ha).up hc hu)
  have hSv:S u v:=hJ.wld j v _ S hS hvj hj rfl (Wt hc hf hu hn)
  rw [hvj,Option.getD_some] at hz
  rw [if_pos (fP hg)]
  have h0:=fQ (P:=P) (Q:=Q) (ops := #[]) (o:=o) (b:=b) (u:=u) (K:=K) (E:=True) hg F (xs ++ [x]) ts _ ho hz hF ?_
  ·rwa [if_pos (by simp [Region.wanted,hg])] at h0
  ·refine Calls.mono (h u v hJ.mem.keep hSv) ?_
   rintro e w' ⟨rfl,hb⟩
   exact ⟨V,rfl,hK V w' (hJ.upd hW hc hf hu hs rfl (by rw [kY hf hq];exact hJ.mem.below hb) (fun _=>hb) (CL.no rfl))⟩) hr
def Nq:TypeDesc→Bool
 | .struct _=>true
 | .array _ _=>true
 | _=>false
theorem CU {o:Oper} {ev:Operand→Value} {u:World} {ty:TypeId} {x:Operand} {A:Addr} {v:Value} {d:TypeDesc} (ho:o.op = .load ty x) (hx:ev x = .pointer (some A)) (hd:Nq d=false) (hu:P.underlying ty=some d) (hc:u.cell? A=some v):(execOp ev o).run P u = .ok (.value v) u:=by
 have ha:(isAgg ty).run P u = .ok false u:=by
  unfold isAgg
  simp only [Sem.run_bind,run_underlying hu,Result.andThen_ok]
  cases d <;> simp_all [Nq]
 have hl:(load A).run P u = .ok v u:=by simp [load,Sem.run,hc]
 simp [execOp,ho,hx,Instr.loadAt,Instr.sureAddr,asAddr,loadVar,ha,hl,Sem.run_bind,Result.andThen]
theorem Jv (hW:uZ l sy=true) (hr:dW P Q l T w old sy pt a r (i+1)) {ty:TypeId} {x:Operand} {v:Value} {d:TypeDesc} (κ off:Nat) (cs:Array Value) (t:TypeId) (hcs:cs[off]? = some v) (hd:Nq d=false) (hu:P.underlying ty=some d)
  (ho:o.op = .load ty x:=by rfl) (hg:o.guard=none:=by rfl) (hs:sy[i]? = some (Yv v):=by rfl) (hq:gM sy pt i=true:=by kernel_rfl) (hrd:iD l i x=true:=by kernel_rfl) (hl:uy l old sy i κ=true:=by kernel_rfl)
  (hx:∀ f,sev l sy a f x = .pointer (some ⟨adr old f κ,off,none⟩):=by intro f;first|rfl|kernel_rfl) (hc:cont l old sy pt i κ=some (Cr cs t):=by kernel_rfl):dW P Q l T w old sy pt a (o :: r) i :=
 .cons (EF hW hg hs hq rfl fun f b u hJ hc' hf hu' jc=>⟨v,by
  obtain ⟨⟨ob,JR,hpo⟩, -⟩:=hJ.mem.mem κ _ _ (qR hJ hc' hf hu' hc hl)
  have hpo:ob = .cells cs t (0,0):=hpo
  subst hpo
  exact CU ho ((jl hJ hc' hu' jc hrd).trans (hx f)) hd hu (by rw [aF JR,hcs]),rfl⟩) hr
theorem SyD (hW:uZ l sy=true) (hr:dW P Q l T w old sy pt a r (i+1)) {F:FuncId} {xs:List Operand} {ts:Array TypeId} {vs:List Value} {V:Value} (h:∀ u,Kept T w u→Calls P F vs.toArray u fun e w'=>e = .returned V∧Below u.heap.size u w')
  (ho:o.op = .call { callee := .value (.func F),args:=xs.toArray,argTypes:=ts }:=by rfl) (hg:o.guard=none:=by rfl) (hs:sy[i]? = some (Yv V):=by rfl) (hq:gM sy pt i=true:=by kernel_rfl) (hrd:xs.all (iD l i)=true:=by kernel_rfl)
  (hF:∀ (args:Array Value) (u:World),(callFunc F args).run P u = .ok (.enter F args) u:=by intro args u;kernel_rfl) (hv:∀ f,xs.map (sev l sy a f)=vs:=by intro f;first|rfl|kernel_rfl):dW P Q l T w old sy pt a (o :: r) i :=
 .cons (zC F xs ts hW hg hs hq ho hrd hF fun f u hJ _=>by
  rw [hv]
  refine (h u hJ.mem.keep).mono ?_
  rintro e w' ⟨rfl,hb⟩
  exact ⟨V,rfl,rfl,hb,CL.no rfl⟩) hr
theorem SySa (hW:uZ l sy=true) (hr:dW P Q l T w old sy pt a r (i+1)) {ty:TypeId} {x y:Operand} {n:Nat} {ds:Array Value} (κ:Nat) (cs:Array Value) (t:TypeId) (hi:(P.info? ty).map (·.size)=some n) (hcs:cs.size=n) (hds:ds.size=n) (hone:ds.all (·.oneCell')=true)
  (hpt:nP (know l i) i κ pt=some (Cr ds t):=by kernel_rfl) (ho:o.op = .store ty x y:=by rfl) (hg:o.guard=none:=by rfl) (hs:sy[i]? = some Y0:=by rfl) (hrd:(iD l i x && iD l i y)=true:=by kernel_rfl) (hl:uy l old sy i κ=true:=by kernel_rfl)
  (hx:∀ f,sev l sy a f x = .pointer (some ⟨adr old f κ,0,none⟩):=by intro f;first|rfl|kernel_rfl) (hy:∀ f,sev l sy a f y = .agg ds:=by intro f;first|rfl|kernel_rfl) (hc:cont l old sy pt i κ=some (Cr cs t):=by kernel_rfl):dW P Q l T w old sy pt a (o :: r) i :=
 .cons (Hl κ n hW hg hs rfl rfl ho hrd hl hx hc hpt (fun ob h=>⟨cs,h,hcs⟩) hi fun f _=>⟨ds,hy f,hds,hone,rfl⟩) hr
end
end Go.Proofs.YthdgbgleklkaiaaDoor
namespace Go.Proofs.YthdgbgleklkaiaaDoor.Hb
open Go.RowKit
theorem or_comm (k:IntKind) (a b:Int):bits .or k a b=bits .or k b a:=by
 unfold bits
 simp only
 rw [BitVec.or_comm]
theorem ror_1 (x:Int) (w:World):Calls Tryd.prog 85 #[.int .u64 x, .int .u64 1] w fun e w'=>e = .returned (.int .u64 (eu x 2 9223372036854775808))∧w=w':=by
 go_enter Tryd.func85, Tryd.ntmps85
 go_wp2
 go_ret
 exact ⟨by unfold eu;rw [or_comm];rfl,rfl⟩
theorem ror_8 (x:Int) (w:World):Calls Tryd.prog 85 #[.int .u64 x, .int .u64 8] w fun e w'=>e = .returned (.int .u64 (eu x 256 72057594037927936))∧w=w':=by
 go_enter Tryd.func85, Tryd.ntmps85
 go_wp2
 go_ret
 exact ⟨by unfold eu;rw [or_comm];rfl,rfl⟩
theorem ror_14 (x:Int) (w:World):Calls Tryd.prog 85 #[.int .u64 x, .int .u64 14] w fun e w'=>e = .returned (.int .u64 (eu x 16384 1125899906842624))∧w=w':=by
 go_enter Tryd.func85, Tryd.ntmps85
 go_wp2
 go_ret
 exact ⟨by unfold eu;rw [or_comm];rfl,rfl⟩
theorem Kq (x:Int) (w:World):Calls Tryd.prog 85 #[.int .u64 x, .int .u64 18] w fun e w'=>e = .returned (.int .u64 (eu x 262144 70368744177664))∧w=w':=by
 go_enter Tryd.func85, Tryd.ntmps85
 go_wp2
 go_ret
 exact ⟨by unfold eu;rw [or_comm];rfl,rfl⟩
theorem Ko (x:Int) (w:World):Calls Tryd.prog 85 #[.int .u64 x, .int .u64 19] w fun e w'=>e = .returned (.int .u64 (eu x 524288 35184372088832))∧w=w':=by
 go_enter Tryd.func85, Tryd.ntmps85
 go_wp2
 go_ret
 exact ⟨by unfold eu;rw [or_comm];rfl,rfl⟩
theorem ror_28 (x:Int) (w:World):Calls Tryd.prog 85 #[.int .u64 x, .int .u64 28] w fun e w'=>e = .returned (.int .u64 (eu x 268435456 68719476736))∧w=w':=by
 go_enter Tryd.func85, Tryd.ntmps85
 go_wp2
 go_ret
 exact ⟨by unfold eu;rw [or_comm];rfl,rfl⟩
theorem ror_34 (x:Int) (w:World):Calls Tryd.prog 85 #[.int .u64 x, .int .u64 34] w fun e w'=>e = .returned (.int .u64 (eu x 17179869184 1073741824))∧w=w':=by
 go_enter Tryd.func85, Tryd.ntmps85
 go_wp2
 go_ret
 exact ⟨by unfold eu;rw [or_comm];rfl,rfl⟩
theorem ror_39 (x:Int) (w:World):Calls Tryd.prog 85 #[.int .u64 x, .int .u64 39] w fun e w'=>e = .returned (.int .u64 (eu x 549755813888 33554432))∧w=w':=by
 go_enter Tryd.func85, Tryd.ntmps85
 go_wp2
 go_ret
 exact ⟨by unfold eu;rw [or_comm];rfl,rfl⟩
theorem ror_41 (x:Int) (w:World):Calls Tryd.prog 85 #[.int .u64 x, .int .u64 41] w fun e w'=>e = .returned (.int .u64 (eu x 2199023255552 8388608))∧w=w':=by
 go_enter Tryd.func85, Tryd.ntmps85
 go_wp2
 go_ret
 exact ⟨by unfold eu;rw [or_comm];rfl,rfl⟩
theorem ror_61 (x:Int) (w:World):Calls Tryd.prog 85 #[.int .u64 x, .int .u64 61] w fun e w'=>e = .returned (.int .u64 (eu x 2305843009213693952 8))∧w=w':=by
 go_enter Tryd.func85, Tryd.ntmps85
 go_wp2
 go_ret
 exact ⟨by unfold eu;rw [or_comm];rfl,rfl⟩
def zs' (n:Nat):Nat:=(2 * 128 - 16 - 1 - n % 128) % 128
def jA (n j:Nat):List Int:=(List.range j).map fun i=>if 16 - 1 - i < 8 then ((8 * n / 2 ^ (8 * (16 - 1 - i)) % 256:Nat):Int) else 0
theorem qO (n j:Nat):jA n (j+1)=jA n j ++ [if 16 - 1 - j < 8 then ((8 * n / 2 ^ (8 * (16 - 1 - j)) % 256:Nat):Int) else 0]:=by simp [jA,List.range_succ]
theorem Ad (n:Nat):(128 :: acG (zs' n) 0) ++ jA n 16=tail n:=by
 unfold tail jA zs'
 rw [acH]
 congr 1
theorem vG (k:Nat):(128:Int) :: acG (k+1) 0=(128 :: acG k 0) ++ [0]:=by rw [List.replicate_succ',List.cons_append]
theorem sG (x:Nat) (hx:x < 9223372036854775808):bits .and .i64 (x:Int) 255=((x % 256:Nat):Int):=by
 have e:x &&& 255=x % 256:=Nat.and_two_pow_sub_one_eq_mod x 8
 have h1:(acJ 64 (x:Int)).toNat=x:=by
  rw [BitVec.ofInt_natCast,BitVec.toNat_ofNat];exact acF (by omega)
 have h2:(acJ 64 (255:Int)).toNat=255:=by decide
 show IntKind.i64.wrap ((acJ 64 (x:Int) &&& acJ 64 (255:Int)).toNat:Int)=_
 rw [BitVec.toNat_and,h1,h2,e,IntKind.wrap_i64]
 omega
structure oV (w wr:World) (v:Value) (ys:List Int):Prop where
 own:aU wr w.heap.size v ys
 below:Below w.heap.size w wr
theorem oV.snoc {w wr w':World} {v v':Value} {ys:List Int} {x:Int} (h:oV w wr v ys) (o:Obj) (h1:aU w' w.heap.size v' (ys ++ [x])) (hg:(wr.alloc o).grownBy w' v.ownBlock):oV w w' v' (ys ++ [x]) :=
 ⟨h1,aQ (h.own.alloc o) hg (h.below.alloc h.below.size o) (acI h.below.size (by simp))⟩
theorem rU (sa:Option Addr) (n c:Nat) (xs:List Int) (w:World) (hs:Src w sa n xs) (hn:n≤70368744177664) :
  Calls Tryd.prog 28 #[.slice sa n c, .int .i64 128, .int .i64 16] w fun e w'=>∃ v,e = .returned v∧aU w' w.heap.size v (xs ++ tail n)∧Below w.heap.size w w':=by
 have hxl:=hs.len
 have HS:=acD hs
 have iK:=acD hxl
 clear hs hxl
 go_enter Tryd.func28, Tryd.ntmps28
 go_wp2_with (first|((with_reducible refine aS 12 ?_);refine aR rfl _ _ rfl w.heap.size (.slice none 0 0) [] rfl (aU.nil _ _) sa n _ xs rfl HS.out ?_ (Nat.le_refl _) ?_;(simp;omega);intro v1 w1 hown1 hgrow1 XF hat1;rw [List.nil_append] at hown1;have hb1:Below w.heap.size w w1:=(Below.refl _ w).grown hgrow1 (Nat.le_refl _) (fun k hk=>by cases hk);have NA:=acD hown1;clear hown1 hgrow1 XF hat1)|((with_reducible refine aS 14 ?_);refine aR rfl _ _ rfl w.heap.size v1 xs rfl (NA.out.alloc _) (some ⟨w1.heap.size,0,none⟩) 1 _ [128] rfl (jK _ _) ?_ (acI hb1.size (by simp)) ?_;(rw [iK.out];omega);intro v2 w2 hown2 hgrow2 Xz hat2;have yj:=acD (oV.snoc ⟨NA.out,hb1⟩ _ hown2 hgrow2);clear hown2 hgrow2 Xz hat2))
 obtain ⟨s2,c2,hv2, -⟩:=yj.out.own.form
 rw [acE,iK.out,acP] at hv2
 subst hv2
 go_loopg [7] (zs' n) (fun g m wr=>∃ (k l:Nat) (sv:Option Addr) (cv:Nat),g+k=zs' n∧l=n+1+k∧m = .slice sv l cv∧oV w wr (.slice sv l cv) (xs ++ (128 :: acG k 0)))
 case atStart=>exact ⟨0,n+1,s2,c2,by omega,rfl,rfl,yj.out⟩
 case round =>
  obtain ⟨k,l,sv,cv,hk,hl,rfl,hp⟩:=hrel
  obtain ⟨wo,rfl⟩:∃ wo:World,wo=wr:=⟨_,rfl⟩
  have hzs:zs' n=(2 * 128 - 16 - 1 - n % 128) % 128:=rfl
  have hmod:((l:Int) % 128)=(((n+1+k) % 128:Nat):Int):=by rw [hl];omega
  have hl1:l≤140737488355000:=by rw [hl];omega
  have HL:=acD hl
  by_cases hlt:k < zs' n
  ·have t1:(((l:Int) % 128) == 112)=false:=by rw [hmod];simp;omega
   have t2:(((l:Int) % 128) != 112)=true:=by rw [hmod];simp;omega
   have HP:=acD hp
   clear hzs hmod hp hl
   go_wp2_with ((with_reducible refine aS 25 ?_);refine aR rfl _ _ rfl w.heap.size (.slice sv l cv) (xs ++ (128 :: acG k 0)) rfl (HP.out.own.alloc _) (some ⟨wo.heap.size,0,none⟩) 1 _ [0] rfl (jK _ _) ?_ (acI HP.out.below.size (by simp)) ?_;(rw [acE,iK.out,acZ,adA];have:=HL.out;omega);intro v5 w5 hown5 gG mV vK;have qQ:=oV.snoc HP.out _ hown5 gG;clear hown5 gG mV vK;rw [acH,← vG] at qQ;obtain ⟨s5,c5,hv5, -⟩:=qQ.own.form;rw [acE,iK.out,acZ,adA,show n+(k+1+1)=l+1 by have:=HL.out;omega] at hv5;subst hv5;have Uk:=acD qQ;clear qQ)
   go_roundg (gk - 1)
   case measure=>omega
   case rel=>exact ⟨k+1,l+1,s5,c5,by omega,by have:=HL.out;omega,rfl,Uk.out⟩
  ·have t1:(((l:Int) % 128) == 112)=true:=by rw [hmod];simp;omega
   have t2:(((l:Int) % 128) != 112)=false:=by rw [hmod];simp;omega
   have ek:k=zs' n:=by omega
   obtain ⟨ys,hys⟩:∃ ys,ys=xs ++ (128 :: acG k 0):=⟨_,rfl⟩
   rw [← hys] at hp
   rw [ek] at hys
   have hyl:ys.length=l:=by rw [hys,hl,ek,acE,iK.out];simp;omega
   have HYS:=acD hys
   have HYL:=acD hyl
   have HP:=acD hp
   clear hzs hmod hp hl ek hys hyl
   go_wp2_with fail
   go_loopg [7,9] 16 (fun g m i wr=>∃ (j l':Nat) (sv:Option Addr) (cv:Nat),g+j=16∧l'=l+j∧i = .int .i64 (15 - (j:Int))∧m = .slice sv l' cv∧oV w wr (.slice sv l' cv) (ys ++ jA n j))
   case atStart=>exact ⟨0,l,sv,cv,rfl,rfl,rfl,rfl,by simpa [jA] using HP.out⟩
   case round =>
    obtain ⟨j,l',sv',cv',hj,hl',rfl,rfl,hp⟩:=hrel
    obtain ⟨wo2,rfl⟩:∃ wo2:World,wo2=wr:=⟨_,rfl⟩
    have hll:(jA n j).length=j:=by simp [jA]
    have Un:=acD hll
    have HL':=acD hl'
    have Cx:=acD hp
    clear hll hl' hp
    by_cases hlt2:j < 16
    ·by_cases h8:15 - j < 8
     ·have e1:(8 * (15 - (j:Int))).toNat=8 * (15 - j):=by omega
      have e2:0≤8 * (15 - (j:Int)):=by omega
      have e3:8 * (15 - (j:Int))≤56:=by omega
      have e4:(15:Int) - (j:Int) < 8:=by omega
      have e5:bits .and .i64 (8 * (n:Int) / 2 ^ (8 * (15 - j))) 255=((8 * n / 2 ^ (8 * (15 - j)) % 256:Nat):Int):=by
       rw [show (8 * (n:Int) / 2 ^ (8 * (15 - j)))=((8 * n / 2 ^ (8 * (15 - j)):Nat):Int) by rw [Int.natCast_ediv,Int.natCast_mul,Int.natCast_pow];rfl]
       exact sG _ (Nat.lt_of_le_of_lt (Nat.div_le_self _ _) (by omega))
      have e6:jA n (j+1)=jA n j ++ [((8 * n / 2 ^ (8 * (15 - j)) % 256:Nat):Int)]:=by rw [qO,if_pos h8]
      obtain ⟨x,hx⟩:∃ x,x=8 * n / 2 ^ (8 * (15 - j)) % 256:=⟨_,rfl⟩
      have hx1:x < 256:=by rw [hx];exact acL _ (by omega)
      rw [← hx] at e5 e6
      have E6:=acD e6
      clear hx e6
      go_wp2_with ((with_reducible refine aS 47 ?_);refine aR rfl _ _ rfl w.heap.size (.slice sv' l' cv') (ys ++ jA n j) rfl (Cx.out.own.alloc _) (some ⟨wo2.heap.size,0,none⟩) 1 _ [(x:Int)] rfl (jK _ _) ?_ (acI Cx.out.below.size (by simp)) ?_;(rw [acE,HYL.out,Un.out];omega);intro v5 w5 hown5 gG mV vK;have qQ:=oV.snoc Cx.out _ hown5 gG;clear hown5 gG mV vK;rw [acH,← E6.out] at qQ;obtain ⟨s5,c5,hv5, -⟩:=qQ.own.form;rw [acE,HYL.out,E6.out,acE,Un.out,acP,show l+(j+1)=l'+1 by have:=HL'.out;omega] at hv5;subst hv5;have Uk:=acD qQ;clear qQ)
      go_roundg (gk - 1)
      case measure=>omega
      case rel=>exact ⟨j+1,l'+1,s5,c5,by omega,by have:=HL'.out;omega,by congr 1;omega,rfl,Uk.out⟩
     ·have e6:jA n (j+1)=jA n j ++ [0]:=by rw [qO,if_neg h8]
      have e4:¬ (15:Int) - (j:Int) < 8:=by omega
      have E6:=acD e6
      clear e6
      go_wp2_with ((with_reducible refine aS 47 ?_);refine aR rfl _ _ rfl w.heap.size (.slice sv' l' cv') (ys ++ jA n j) rfl (Cx.out.own.alloc _) (some ⟨wo2.heap.size,0,none⟩) 1 _ [0] rfl (jK _ _) ?_ (acI Cx.out.below.size (by simp)) ?_;(rw [acE,HYL.out,Un.out];omega);intro v5 w5 hown5 gG mV vK;have qQ:=oV.snoc Cx.out _ hown5 gG;clear hown5 gG mV vK;rw [acH,← E6.out] at qQ;obtain ⟨s5,c5,hv5, -⟩:=qQ.own.form;rw [acE,HYL.out,E6.out,acE,Un.out,acP,show l+(j+1)=l'+1 by have:=HL'.out;omega] at hv5;subst hv5;have Uk:=acD qQ;clear qQ)
      go_roundg (gk - 1)
      case measure=>omega
      case rel=>exact ⟨j+1,l'+1,s5,c5,by omega,by have:=HL'.out;omega,by congr 1;omega,rfl,Uk.out⟩
    ·have ej:j=16:=by omega
     have hfin:aU wo2 w.heap.size (.slice sv' l' cv') (xs ++ tail n):=by
      have:=Cx.out.own
      rwa [ej,HYS.out,acH,Ad] at this
     have hbe:=Cx.out.below
     have HF:=acD hfin
     clear ej hfin
     go_wp2_with fail
     go_ret
     exact ⟨_,rfl,HF.out,hbe⟩
end Go.Proofs.YthdgbgleklkaiaaDoor.Hb
namespace Go.Proofs.YthdgbgleklkaiaaDoor.Wr
open Go.RowKit
theorem Xa:(Tryd.prog.info? 5).map (fun i=>(i.zero,i.size,i.bytes))=some (some (.int .u8 0),1,1):=by kernel_rfl
theorem xS {w:World} {ops:Array Oper} {o:Oper} {a:Act} {K:Act→World→Prop} {Q:Exit→Act→World→Prop} {E:Prop} (hgd:o.guard=none) (s x:Operand)
  (ho:o.op = .call { callee := .builtin .append,args := #[s,x],argTypes := #[24, 24] }) (g n m c:Nat) (a2:Addr) (xs ys:List Int) (hs:a.eval s = .slice (some ⟨g,0,none⟩) n n) (hx:a.eval x = .slice (some a2) m c)
  (h1:Src w (some ⟨g,0,none⟩) n xs) (h2:Src w (some a2) m ys) (hm:0 < m) (hle:n+m≤1099511627776)
  (h:∀ g' cap w',Src w' (some ⟨g',0,none⟩) (n+m) (xs ++ ys)→n+m≤cap→Below w.heap.size w w'→K (a.put o.dst (.slice (some ⟨g',0,none⟩) (n+m) cap)) w') :
  if Region.wanted o (yielded ops a.tmps)=true then Oper.wp Tryd.prog o a w K Q else E:=by
 have hw:Region.wanted o (yielded ops a.tmps)=true:=by simp [Region.wanted,hgd]
 rw [if_pos hw]
 obtain ⟨i0,hi,hz⟩:=Option.map_eq_some_iff.1 Xa
 simp only [Prod.mk.injEq] at hz
 obtain ⟨z0,z1,z2⟩:=hz
 obtain ⟨v',w',hrun,hown,hgr⟩:=run_append_arg_grows (P := Tryd.prog) w 24 o.type 5 i0 (.int .u8 0) 1 1 Tryd.underlying24 hi z0 z1 z2 rfl (by decide) ⟨g,0,none⟩ n n (xs.map (Value.int .u8)) (by simp [h1.len]) (jk h1 _ rfl) a2 m c (ys.map (Value.int .u8)) (by simp [h2.len]) (jk h2 _ rfl) (by omega) (by unfold maxLen;omega) (by omega)
 have hb:Below w.heap.size w w':=⟨hgr.os,hgr.tape,hgr.output,hgr.size,fun k hk=>hgr.block k hk (by simp)⟩
 unfold Oper.wp execOp
 simp only [ho,resolve,invoke,builtin,Sem.run_bind,Sem.run_pure,Result.andThen_ok,List.map_toArray,List.map_cons,List.map_nil,hs,hx,hrun]
 rcases hown.2 with ⟨-, h0⟩|⟨g',cap,cur,rfl, -, -, hcap, -⟩
 ·exact absurd h0 (by omega)
 ·refine h g' cap w' ⟨by rw [acE,h1.len,h2.len],fun j hj=>⟨_,rfl,?_⟩⟩ hcap hb
  rw [← acV] at hown
  refine World.ownsRow.cells hown (g:=g') rfl j _ ?_
  have hj2:j < (xs ++ ys).length:=by rw [acE,h1.len,h2.len];exact hj
  rw [List.getElem?_map,acN,List.getElem?_eq_getElem hj2]
  rfl
end Go.Proofs.YthdgbgleklkaiaaDoor.Wr
namespace Go.Proofs.YthdgbgleklkaiaaDoor.Ed
open Go.RowKit Lm Fp Cu Pri
theorem Qn (a e:Nat):∀ n,iE a e n=pw P0 a e n
 | 0=>rfl
 | n+1=>by
  unfold iE pw
  rw [Qn a e n]
  rfl
theorem toK_fpow (a e:Nat) (he:e < 2 ^ 256):toK (iE a e 256)=toK (a ^ e):=by
 rw [Qn,to_eq,yB P0 a e he]
theorem toK_finv (a:Nat):toK (finv a)=inv (toK a):=by
 unfold finv inv
 rw [toK_fpow _ _ (by decide +kernel),to_eq,iZ,R8,← acQ]
theorem toK_lt {x y:Nat} (hx:x < Fp.p) (hy:y < Fp.p) (h:toK x=toK y):x=y:=by
 rw [to_eq,← R8,acF hx,acF hy] at h
 exact h
theorem toK_is {x:Nat} (hx:x < Fp.p) {a:K} (h:toK x=a):x=a.val:=by
 rw [← h,iZ,← R8,acF hx]
theorem PZ (a z:K) (hz:z≠0):a * z * inv z=a:=by
 have:=dK z hz
 grind
theorem Is.bytes {P:Pt} {A:K×K} (h:Is P A):lK P=A.2.val+2 ^ 255 * (A.1.val % 2):=by
 have e1:aA P.y (finv P.z)=A.2.val:=toK_is (dH _ _) (by rw [gK,toK_finv,h.ext.ey];exact PZ _ _ h.ext.ez)
 have e2:aA P.x (finv P.z)=A.1.val:=toK_is (dH _ _) (by rw [gK,toK_finv,h.ext.ex];exact PZ _ _ h.ext.ez)
 unfold lK
 rw [e1,e2]
theorem pm_one {t:K} (h:t * t=1):t=1∨t = -1:=by
 have h1:(t - 1) * (t+1)=0:=by grind
 rcases int h1 with h2|h2
 ·left;grind
 ·right;grind
theorem pm {r x:K} (h:r * r=x * x):r=x∨r = -x:=by
 have h1:(r - x) * (r+x)=0:=by grind
 rcases int h1 with h2|h2
 ·left;grind
 ·right;grind
theorem im_k:toK im * toK im = -1:=by decide +kernel
theorem root_k {s:Nat} (hs:s < Fp.p) {X:K} (h:toK s=X * X):(jC s).2=true∧toK (jC s).1 * toK (jC s).1=X * X∧(jC s).1 % 2=0∧(jC s).1 < Fp.p:=by
 have hT:∃ T:K,toK (iE s eighth 256) * toK (iE s eighth 256)=toK s * T∧(X≠0→T * T=1):=by
  refine ⟨toK (s ^ (2 * eighth - 1)),?_,fun hX=>?_⟩
  ·rw [toK_fpow _ _ (by decide +kernel),← mo,← mo,← acR,← Nat.pow_succ',show (2 * eighth - 1).succ=eighth+eighth by decide +kernel]
  ·have hX':X.val % P0≠0:=fun e=>hX (by rw [← iY X];exact nI.2 e)
   rw [← mo,← acR]
   show _=toK 1
   rw [to_eq,show 1 % P0=1 by decide +kernel]
   refine Eq.trans ?_ (vM _ hX')
   have e1:s % P0=(X.val * X.val) % P0:=by rw [← to_eq,h,mo,iY]
   rw [acQ,e1,← acQ,Nat.mul_pow,← acR]
   congr 2
 obtain ⟨T,hT1,SX⟩:=hT
 have hy:∃ y,y < Fp.p∧aA y y=s∧jC s=(if y % 2=1 then aX 0 y else y,true):=by
  by_cases h1:aA (iE s eighth 256) (iE s eighth 256)=s
  ·exact ⟨iE s eighth 256,Qo _ _ _,h1,by unfold jC;simp only [if_pos h1]⟩
  ·have h2:T≠1:=fun e=>h1 (toK_lt (dH _ _) hs (by rw [gK,hT1,e];grind))
   have h0:X≠0:=fun e=>h1 (toK_lt (dH _ _) hs (by rw [gK,hT1,h,e];grind))
   have h3:=(pm_one (SX h0)).resolve_left h2
   have h4:aA (aA (iE s eighth 256) im) (aA (iE s eighth 256) im)=s:=toK_lt (dH _ _) hs (by
    rw [gK,gK]
    have:=im_k
    rw [h3] at hT1
    grind)
   exact ⟨aA (iE s eighth 256) im,dH _ _,h4,by unfold jC;simp only [if_neg h1,if_pos h4]⟩
 obtain ⟨y,y1,y2,y3⟩:=hy
 have y4:toK y * toK y=X * X:=by rw [← gK,y2,h]
 have hp2:Fp.p % 2=1:=by decide +kernel
 rw [y3]
 refine ⟨rfl,?_⟩
 show toK (if y % 2=1 then aX 0 y else y) * toK (if y % 2=1 then aX 0 y else y)=_∧(if y % 2=1 then aX 0 y else y) % 2=0∧(if y % 2=1 then aX 0 y else y) < Fp.p
 split
 ·rename_i ho
  have e1:aX 0 y=Fp.p - y:=by
   rw [aX,Nat.zero_add,acF (by omega)]
  refine ⟨?_,by rw [e1];omega,Qm _ _⟩
  rw [kM 0 y1]
  have:toK 0=0:=rfl
  rw [this]
  grind
 ·exact ⟨y4,by omega,y1⟩
theorem o4 {n:Nat} [NeZero n] (d:Fin n):d * (0 * 0)+1=1:=by grind
theorem den (A:K×K):toK D0 * (A.2 * A.2)+1≠0:=by
 intro h
 obtain ⟨i,hi⟩:=mX.im
 have h1:i * i=toK D0 * (A.2 * A.2):=by rw [hi];grind
 have h2:=non h1
 rw [h2] at h
 have h3:toK D0 * ((0:K) * 0)+1=1:=o4 _
 exact mX.one (h3.symm.trans h)
theorem num {A:K×K} (hA:on A):(A.2 * A.2 - 1) * inv (toK D0 * (A.2 * A.2)+1)=A.1 * A.1:=by
 have h1:=dK _ (den A)
 have h2:A.2 * A.2 - 1=A.1 * A.1 * (toK D0 * (A.2 * A.2)+1):=by
  have h3:A.2 * A.2=A.1 * A.1+1+toK D0 * (A.1 * A.1) * (A.2 * A.2):=hA
  grind
 rw [h2]
 grind
theorem R4 {A:K×K} (hA:on A):∃ Q,iU (A.2.val+2 ^ 255 * (A.1.val % 2))=some Q∧Is Q A:=by
 have hp:=p_eq
 have hy:A.2.val < Fp.p:=A.2.isLt
 have hx:A.1.val < Fp.p:=A.1.isLt
 have hb:A.1.val % 2 < 2:=acL _ (by decide)
 have e1:(A.2.val+2 ^ 255 * (A.1.val % 2)) % 2 ^ 255=A.2.val:=by omega
 have e2:(A.2.val+2 ^ 255 * (A.1.val % 2)) / 2 ^ 255=A.1.val % 2:=by omega
 have hp2:Fp.p % 2=1:=by decide +kernel
 obtain ⟨r1,r2,r3,r4⟩:=root_k (s:=aA (aX (aA A.2.val A.2.val) 1) (finv (aL (aA dd (aA A.2.val A.2.val)) 1))) (dH _ _) (X:=A.1) (by
  rw [gK,toK_finv,kM _ zY,ED,gK,gK,gK,iY,d_is]
  exact num hA)
 unfold iU
 simp only [e1,e2]
 rw [if_pos hy]
 generalize jC (aA (aX (aA A.2.val A.2.val) 1) (finv (aL (aA dd (aA A.2.val A.2.val)) 1)))=R at *
 have hx0:A.1.val % 2=1→R.1≠0:=fun ho h0=>by
  rw [h0] at r2
  have h1:A.1 * A.1=0:=by rw [← r2];rfl
  have h2:A.1=0:=(int h1).elim id id
  rw [h2] at ho
  exact absurd ho (by decide +kernel)
 rw [if_pos ⟨r1,hx0⟩]
 refine ⟨_,rfl,?_⟩
 have key:toK (if A.1.val % 2=1 then aX 0 R.1 else R.1)=A.1:=by
  have v1:toK A.1.val=A.1:=iY _
  split
  ·rename_i ho
   rw [kM 0 r4]
   rcases pm r2 with h|h
   ·have:=toK_is r4 h
    omega
   ·rw [h]
    show toK 0 - -A.1=A.1
    have:toK 0=0:=rfl
    rw [this]
    grind
  ·rename_i ho
   rcases pm r2 with h|h
   ·exact h
   ·have h1:toK (R.1+A.1.val)=0:=by rw [Kg,h,v1];grind
    rw [nI] at h1
    have h2:R.1=0∧A.1.val=0:=by
     have h1':(R.1+A.1.val) % Fp.p=0:=h1
     obtain ⟨c,hc⟩:=Nat.dvd_of_mod_eq_zero h1'
     have:c < 2:=by
      rcases Nat.lt_or_ge c 2 with h3|h3
      ·exact h3
      ·have:=Nat.mul_le_mul_left Fp.p h3
       omega
     rcases (show c=0∨c=1 by omega) with rfl|rfl <;> omega
    rw [h2.1]
    rw [h2.2] at v1
    exact v1
 have hlt:(if A.1.val % 2=1 then aX 0 R.1 else R.1) < Fp.p:=by
  split
  ·exact Qm _ _
  ·exact r4
 have t1:toK 1=1:=rfl
 exact ⟨⟨hlt,hy,zY,dH _ _⟩,⟨by show toK 1≠0;exact mX.one,by show toK _=A.1 * toK 1;rw [key,t1];grind,by show toK _=A.2 * toK 1;rw [iY,t1];grind,by show toK (aA _ _)=A.1 * A.2 * toK 1;rw [gK,key,iY,t1];grind⟩⟩
end Go.Proofs.YthdgbgleklkaiaaDoor.Ed
