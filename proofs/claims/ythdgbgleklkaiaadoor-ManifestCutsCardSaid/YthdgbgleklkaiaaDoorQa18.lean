/- field.prime, Lessen, fold, Plus, Minus: 32 bytes and the number that they are; Plain facts on bytes as numbers. The clamping of a key, in plain words. A field's number as four cell. Condition: as each theorem says. -/
import Derived.Lib.AppendStr
import Derived.Lib.ConvBytes
import Derived.Shelf.Bits.Mul64
import Derived.Shelf.Spec.BitsCarry
import Derived.StillTailTactics
import Derived.Test.YthdgbgleklkaiaaDoorQa01
import Derived.Test.YthdgbgleklkaiaaDoorQa02
import Derived.Test.YthdgbgleklkaiaaDoorQa03
import Derived.Test.YthdgbgleklkaiaaDoorQa05
import Derived.Test.YthdgbgleklkaiaaDoorQa06
import Derived.Test.YthdgbgleklkaiaaDoorQa07
import Derived.Test.YthdgbgleklkaiaaDoorQa08
import Derived.Test.YthdgbgleklkaiaaDoorQa09
import Derived.Test.YthdgbgleklkaiaaDoorQa17
set_option linter.unusedSimpArgs false
set_option linter.unusedVariables false
set_option maxRecDepth 100000
set_option maxHeartbeats 16000000
namespace Go.Proofs.YthdgbgleklkaiaaDoor.Fp
open Go.RowKit Lm
def N4 (xs:List Int) (a:Nat):Prop:=xs=aW (bD 18446744073709551616 4 a)∧a < 18446744073709551616 ^ 4
theorem N4.len {xs:List Int} {a:Nat} (h:N4 xs a):xs.length=4:=by rw [h.1,aH,aI]
theorem N4.cast {xs:List Int} {a b:Nat} (h:N4 xs a) (e:a=b):N4 xs b:=e▸h
theorem N4.inj {xs ys:List Int} {a b:Nat} (hx:N4 xs a) (hy:N4 ys b):(xs == ys)=decide (a=b):=by
 obtain ⟨rfl,h1⟩:=hx
 obtain ⟨rfl,h2⟩:=hy
 by_cases e:a=b
 ·subst e;simp
 ·rw [decide_eq_false e,beq_eq_false_iff_ne]
  intro h
  have h3:bD 18446744073709551616 4 a=bD 18446744073709551616 4 b:=by
   have:=congrArg (List.map Int.toNat) h
   have e:∀ l:List Nat,(aW l).map Int.toNat=l:=fun l=>by rw [aW,List.map_map];exact List.map_id l
   rwa [e,e] at this
  have h4:=congrArg (val 18446744073709551616) h3
  rw [eT,eT,Nat.mod_eq_of_lt h1,Nat.mod_eq_of_lt h2] at h4
  exact e h4
end Go.Proofs.YthdgbgleklkaiaaDoor.Fp
namespace Go.Proofs.YthdgbgleklkaiaaDoor.Sl
open Go.RowKit Lm Fp Sc
theorem zero_num (w:World):(zeroValue 23).run Tryd.prog w = .ok (.agg (arr .u8 (List.replicate 32 0))) w:=by kernel_rfl
theorem oL:(Tryd.prog.info? 23).map (·.size)=some 32:=by kernel_rfl
theorem bE {xs:List Int} (h:xs.length=32):(Tryd.prog.info? 23).map (·.size)=some (arr .u8 xs).size:=by rw [aF,h];exact oL
theorem bU {xs:List Int} (h:xs.length=32):(Tryd.prog.info? 23).map (·.size)=some xs.length:=by rw [h];exact oL
def Mt (ks:List Int) (a:Nat):Prop:=ks=aW (bD 256 32 a)∧a < 256 ^ 32
theorem Mt.len {ks:List Int} {a:Nat} (h:Mt ks a):ks.length=32:=by rw [h.1,aH,aI]
theorem Mt.cast {ks:List Int} {a b:Nat} (h:Mt ks a) (e:a=b):Mt ks b:=e▸h
end Go.Proofs.YthdgbgleklkaiaaDoor.Sl
namespace Go.Proofs.YthdgbgleklkaiaaDoor.Sl
open Go.RowKit Lm Fp
theorem Mt.inj {xs ys:List Int} {a b:Nat} (hx:Mt xs a) (hy:Mt ys b):(xs == ys)=decide (a=b):=by
 obtain ⟨rfl,h1⟩:=hx
 obtain ⟨rfl,h2⟩:=hy
 by_cases e:a=b
 ·subst e;simp
 ·rw [decide_eq_false e,beq_eq_false_iff_ne]
  intro h
  have h3:bD 256 32 a=bD 256 32 b:=by
   have:=congrArg (List.map Int.toNat) h
   have e:∀ l:List Nat,(aW l).map Int.toNat=l:=fun l=>by rw [aW,List.map_map];exact List.map_id l
   rwa [e,e] at this
  have h4:=congrArg (val 256) h3
  rw [eT,eT,Nat.mod_eq_of_lt h1,Nat.mod_eq_of_lt h2] at h4
  exact e h4
end Go.Proofs.YthdgbgleklkaiaaDoor.Sl
namespace Go.Proofs.YthdgbgleklkaiaaDoor.Rd
open Go.RowKit Lm Fp Cu
theorem and248:∀ x:Nat,x < 256→bits .and .u8 (x:Int) 248=((x / 8 * 8:Nat):Int):=by decide +kernel
theorem or64:∀ x:Nat,x < 256→bits .or .u8 (bits .and .u8 (x:Int) 127) 64=((x % 64+64:Nat):Int):=by decide +kernel
theorem RQ (v:Nat) (hv:v < 2 ^ 256):((bD 256 32 v).set 0 (v % 256 / 8 * 8)).set 31 (v / 256 ^ 31 % 64+64)=bD 256 32 (clamp v):=by
 have hlt:v / 256 ^ 31 < 256:=Nat.div_lt_of_lt_mul (Nat.lt_of_lt_of_le hv (by decide))
 have hcl:clamp v < 256 ^ 32:=by
  unfold clamp
  have:=Nat.mod_lt (v / 8 * 8) (show 0 < 2 ^ 254 by decide)
  exact Nat.lt_of_lt_of_le (Nat.add_lt_add_right this _) (by decide)
 have l0:v % 256 / 8 * 8 < 256:=by omega
 have l1:∀ x∈(bD 256 32 v).set 0 (v % 256 / 8 * 8),x < 256:=jC (gV 256 (by decide) _ _) _ _ l0
 refine pG 256 (by decide) 32 _ _ (by rw [List.length_set,List.length_set,aI]) (jC l1 _ _ (by omega)) ?_
 have h0:=mX 256 (bD 256 32 v) 0 (v % 256 / 8 * 8) (by rw [aI];decide)
 have h1:=mX 256 ((bD 256 32 v).set 0 (v % 256 / 8 * 8)) 31 (v / 256 ^ 31 % 64+64) (by rw [List.length_set,aI];decide)
 have Lv:((bD 256 32 v).set 0 (v % 256 / 8 * 8)).getD 31 0=v / 256 ^ 31:=by
  simp only [List.getD]
  rw [List.getElem?_set_ne (by decide)]
  have:=dA 256 32 v 31 (by decide)
  rw [Nat.mod_eq_of_lt hlt] at this
  simpa [List.getD] using this
 have g0:(bD 256 32 v).getD 0 0=v % 256:=by rw [dA _ _ _ _ (by decide)];simp
 have hv32:v % 256 ^ 32=v:=Nat.mod_eq_of_lt (Nat.lt_of_lt_of_le hv (by decide))
 rw [g0,eT,hv32,Nat.pow_zero,Nat.one_mul,Nat.one_mul] at h0
 rw [Lv] at h1
 have e1:clamp v=v / 8 * 8 % 2 ^ 254+2 ^ 254:=rfl
 have e3:v / 8 * 8 / 2 ^ 254=v / 256 ^ 31 / 64:=by
  rw [show (2:Nat) ^ 254=8 * 2 ^ 251 by decide,← Nat.div_div_eq_div_mul,Nat.mul_div_cancel _ (by decide),Nat.div_div_eq_div_mul,Nat.div_div_eq_div_mul]
 have e2:=Nat.mod_add_div (v / 8 * 8) (2 ^ 254)
 have e4:=Nat.mod_add_div (v / 256 ^ 31) 64
 rw [e3] at e2
 clear Lv g0
 generalize v / 256 ^ 31=t at *
 rw [e1]
 have k1:(256:Nat) ^ 31=452312848583266388373324160190187140051835877600158453279131187530910662656:=by decide
 have k2:(2:Nat) ^ 254=28948022309329048855892746252171976963317496166410141009864396001978282409984:=by decide
 rw [k1] at h1
 rw [k2] at e2 ⊢
 have e5:v % 256 / 8 * 8+(v - v % 256)=v / 8 * 8:=by omega
 have e6:v % 256≤v:=Nat.mod_le _ _
 omega
end Go.Proofs.YthdgbgleklkaiaaDoor.Rd
namespace Go.Proofs.YthdgbgleklkaiaaDoor.Fp
open Go.RowKit Lm
theorem p32 {a:Nat} (h:a < p):a < 256 ^ 32:=Nat.lt_trans h (by decide +kernel)
theorem JD:Sj Tryd.prog 23 32:=⟨⟨_, Tryd.underlying23, rfl⟩,by kernel_rfl⟩
theorem asz {k:IntKind} {xs:List Int} {n:Nat} (h:xs.length=n):(arr k xs).size=n:=by rw [aF,h]
end Go.Proofs.YthdgbgleklkaiaaDoor.Fp
namespace Go.Proofs.YthdgbgleklkaiaaDoor.Sl
open Go.RowKit Lm Fp Cu Rd
theorem cpt_len {a b c d:List Int} (ha:a.length=4) (hb:b.length=4) (hc:c.length=4) (hd:d.length=4):(a ++ b ++ c ++ d).length=16:=by simp [ha,hb,hc,hd]
def ptl (P:Pt):List Int:=aW (bD 18446744073709551616 4 P.x) ++ aW (bD 18446744073709551616 4 P.y) ++ aW (bD 18446744073709551616 4 P.z) ++ aW (bD 18446744073709551616 4 P.t)
theorem ptl_len (P:Pt):(ptl P).length=16:=cpt_len ((aH _).trans (aI _ _ _)) ((aH _).trans (aI _ _ _)) ((aH _).trans (aI _ _ _)) ((aH _).trans (aI _ _ _))
def P4 (ps:List Int) (P:Pt):Prop:=ps=ptl P∧P.Ok
theorem P4.len {ps:List Int} {P:Pt} (h:P4 ps P):ps.length=16:=by rw [h.1];exact ptl_len P
theorem P4.cast {ps:List Int} {P Q:Pt} (h:P4 ps P) (e:P=Q):P4 ps Q:=e▸h
end Go.Proofs.YthdgbgleklkaiaaDoor.Sl
namespace Go.Proofs.YthdgbgleklkaiaaDoor.Cu
open Go.RowKit Lm Fp Sc
def eY (xs:List Int):Nat:=val 256 (xs.map Int.toNat)
def n32 (a:Nat):List Int:=aW (bD 256 32 a)
theorem bW (a:Nat):(n32 a).length=32:=(aH _).trans (aI _ _ _)
theorem eH (a:Nat):bytes (n32 a):=by
 intro x hx
 obtain ⟨y,hy,rfl⟩:=List.mem_map.1 hx
 have:=gV 256 (by decide) 32 a y hy
 refine ⟨Int.natCast_nonneg y,?_⟩
 show (y:Int)≤255
 omega
theorem QW {xs:List Int} (h:bytes xs):aW (xs.map Int.toNat)=xs:=JU xs (fun x hx=>(h x hx).1)
theorem toNat_lt {xs:List Int} (h:bytes xs):∀ x∈xs.map Int.toNat,x < 256:=by
 intro x hx
 obtain ⟨y,hy,rfl⟩:=List.mem_map.1 hx
 have:=h y hy
 omega
theorem Ih {xs:List Int} (h:bytes xs):aW (bD 256 xs.length (eY xs))=xs:=by
 have h1:=EG 256 (by decide) (xs.map Int.toNat) (toNat_lt h)
 rw [List.length_map] at h1
 rw [eY,h1,QW h]
theorem xU {xs:List Int} (h:bytes xs):eY xs < 256 ^ xs.length:=by
 have:=qQ 256 (xs.map Int.toNat) (toNat_lt h)
 rwa [List.length_map] at this
theorem tH {xs:List Int} (h:bytes xs) (hl:xs.length=32):n32 (eY xs)=xs:=by rw [n32,← hl];exact Ih h
theorem nN {xs:List Int} (h:bytes xs) (n:Nat):bytes (xs.take n):=fun x hx=>h x (List.mem_of_mem_take hx)
theorem LW {xs:List Int} (h:bytes xs) (n:Nat):bytes (xs.drop n):=fun x hx=>h x (List.mem_of_mem_drop hx)
theorem gq {xs ys:List Int} (h:bytes xs) (k:bytes ys):bytes (xs ++ ys):=fun x hx=>(List.mem_append.1 hx).elim (h x) (k x)
end Go.Proofs.YthdgbgleklkaiaaDoor.Cu
namespace Go.Proofs.YthdgbgleklkaiaaDoor
open Go.RowKit
abbrev Row (k:IntKind) (R:List Int→Prop) (v:Value):Prop:=∃ zs,v = .agg (arr k zs)∧R zs
abbrev Ys (k:IntKind) (R:List Int→Prop):Sy:=⟨.soft (Row k R),none⟩
abbrev RZ (k:IntKind) (R:List Int→Prop) (t:TypeId):OP:=fun o=>∃ zs,o = .cells (arr k zs) t (0,0)∧R zs
inductive AR where
 | h (v:Value)
 | s (j:Nat) (k:IntKind) (R:List Int→Prop)
def AR.val (f:Fill):AR→Value
 | .h v=>v
 | .s j _ _=>(f j).getD undef
def AR.P:AR→Value→Prop
 | .h v,x=>x=v
 | .s _ k R,x=>Row k R x
def AR.ok (l:List Oper) (sy:List Sy) (i:Nat):AR→Prop
 | .h _=>True
 | .s j k R=>((Jc l).getD i 0).testBit j=true∧sy[j]? = some (Ys k R)
theorem AR.is {l:List Oper} {sy:List Sy} {i:Nat} {f:Fill} (kn:∀ j,((Jc l).getD i 0).testBit j=true→∃ v s',f j=some v∧sy[j]? = some s'∧s'.cl.ok f v) {A:AR} (h:A.ok l sy i):A.P (A.val f):=by
 cases A with
 | h v=>exact rfl
 | s j k R =>
  obtain ⟨h1,h2⟩:=h
  obtain ⟨v,s',hv,hs',hok⟩:=kn j h1
  rw [h2] at hs'
  cases hs'
  show Row k R ((f j).getD undef)
  rw [hv]
  exact hok
section
variable {P:Program} {Q:Exit→Act→World→Prop} {T:Nat→Prop} {w:World} {l:List Oper} {old:List (Nat×OP)} {sy:List Sy} {pt:List Put} {a:Act} {r:List Oper} {i:Nat} {o:Oper}
theorem SySr (hW:uL l sy=true) (hr:dR P Q l T w old sy pt a r (i+1)) {ty t:TypeId} {x y:Operand} {k:IntKind} {R:List Int→Prop} {n:Nat} {p:OP} (κ j:Nat) (hR:Sj P ty n) (hL:∀ zs,R zs→zs.length=n) (hb:∀ o,p o→∃ cs,o = .cells cs t (0,0)∧cs.size=n)
  (hpt:nA (know l i) i κ pt=some (RZ k R t)) (hc:cont l old sy pt i κ=some p) (hsj:sy[j]? = some (Ys k R):=by rfl) (hj:((Jc l).getD i 0).testBit j=true:=by kernel_rfl) (ho:o.op = .store ty x y:=by rfl) (hg:o.guard=none:=by rfl) (hs:sy[i]? = some Y0:=by rfl) (hrd:(iw l i x && iw l i y)=true:=by kernel_rfl) (hl:tK l old sy i κ=true:=by kernel_rfl)
  (hx:∀ f,sev l sy a f x = .pointer (some ⟨adr old f κ,0,none⟩):=by intro f;first|rfl|kernel_rfl) (hy:∀ f,sev l sy a f y=(f j).getD undef:=by intro f;first|rfl|kernel_rfl):dR P Q l T w old sy pt a (o :: r) i :=
 .cons (Gm κ n hW hg hs rfl rfl ho hrd hl hx hc hpt hb hR.i fun f kn=>by
  obtain ⟨zs,e,hz⟩:=AR.is kn (A := .s j k R) ⟨hj,hsj⟩
  exact ⟨arr k zs,(hy f).trans e,by rw [aF,hL zs hz],av _ _,⟨zs,rfl,hz⟩⟩) hr
theorem vJ (hW:uL l sy=true) (hr:dR P Q l T w old sy pt a r (i+1)) {F:FuncId} {x1 x2:Operand} {ts:Array TypeId} {k:IntKind} {R:List Int→Prop} (A B:AR) (h:∀ v v' u,A.P v→B.P v'→Calls P F #[v,v'] u fun e w'=>∃ zs,e = .returned (.agg (arr k zs))∧R zs∧Below u.heap.size u w')
  (hA:A.ok l sy i:=by first|trivial|exact ⟨by kernel_rfl,by rfl⟩) (hB:B.ok l sy i:=by first|trivial|exact ⟨by kernel_rfl,by rfl⟩) (ho:o.op = .call { callee := .value (.func F),args := #[x1,x2],argTypes:=ts }:=by rfl) (hg:o.guard=none:=by rfl) (hs:sy[i]? = some (Ys k R):=by rfl) (hq:gH sy pt i=true:=by kernel_rfl) (hrd:[x1,x2].all (iw l i)=true:=by kernel_rfl)
  (hF:∀ (args:Array Value) (u:World),(callFunc F args).run P u = .ok (.enter F args) u:=by intro args u;kernel_rfl) (hv:∀ f,sev l sy a f x1=A.val f:=by intro f;first|rfl|kernel_rfl) (hv':∀ f,sev l sy a f x2=B.val f:=by intro f;first|rfl|kernel_rfl):dR P Q l T w old sy pt a (o :: r) i :=
 .cons (yI F [x1,x2] ts hW hg hs hq ho hrd hF fun f u _ kn=>by
  refine Calls.mono (show Calls P F #[sev l sy a f x1,sev l sy a f x2] u _ from h _ _ u (by rw [hv];exact AR.is kn hA) (by rw [hv'];exact AR.is kn hB)) ?_
  rintro e w' ⟨zs,rfl,hz,hb⟩
  exact ⟨_,rfl,⟨zs,rfl,hz⟩,hb,CL.no rfl⟩) hr
theorem SyB4 (hW:uL l sy=true) (hr:dR P Q l T w old sy pt a r (i+1)) {t:TypeId} {x1 x2 x3 x4:Operand} {k:IntKind} {R:List Int→Prop} (A B C D:AR) (h:∀ v1 v2 v3 v4,A.P v1→B.P v2→C.P v3→D.P v4→∃ zs,(∀ u,(Instr.build t #[(0,v1),(1,v2),(2,v3),(3,v4)]).run P u = .ok (.agg (arr k zs)) u)∧R zs)
  (hA:A.ok l sy i:=by first|trivial|exact ⟨by kernel_rfl,by rfl⟩) (hB:B.ok l sy i:=by first|trivial|exact ⟨by kernel_rfl,by rfl⟩) (hC:C.ok l sy i:=by first|trivial|exact ⟨by kernel_rfl,by rfl⟩) (hD:D.ok l sy i:=by first|trivial|exact ⟨by kernel_rfl,by rfl⟩)
  (ho:o.op = .build t #[(0,x1),(1,x2),(2,x3),(3,x4)]:=by rfl) (hg:o.guard=none:=by rfl) (hs:sy[i]? = some (Ys k R):=by rfl) (hq:gH sy pt i=true:=by kernel_rfl) (hrd:([x1,x2,x3,x4].all (iw l i))=true:=by kernel_rfl)
  (h1:∀ f,sev l sy a f x1=A.val f:=by intro f;first|rfl|kernel_rfl) (h2:∀ f,sev l sy a f x2=B.val f:=by intro f;first|rfl|kernel_rfl) (h3:∀ f,sev l sy a f x3=C.val f:=by intro f;first|rfl|kernel_rfl) (h4:∀ f,sev l sy a f x4=D.val f:=by intro f;first|rfl|kernel_rfl):dR P Q l T w old sy pt a (o :: r) i :=
 .cons (DC hW hg hs hq rfl fun f b u hJ hc hf hu iW=>by
  have kn:∀ j,((Jc l).getD i 0).testBit j=true→∃ v s',f j=some v∧sy[j]? = some s'∧s'.cl.ok f v:=fun j hj=>by
   obtain ⟨v,hv⟩:=sE ((nO hj).up hc hu)
   obtain ⟨s',hs',hok⟩:=hJ.val j v hv
   exact ⟨v,s',hv,hs',hok⟩
  obtain ⟨zs,hrun,hz⟩:=h _ _ _ _ (AR.is kn hA) (AR.is kn hB) (AR.is kn hC) (AR.is kn hD)
  have hrd':=List.all_eq_true.1 hrd
  refine ⟨_,nL t _ ho _ ?_ _ (hrun u),⟨zs,rfl,hz⟩⟩
  show [(0,b.eval x1),(1,b.eval x2),(2,b.eval x3),(3,b.eval x4)]=_
  rw [(jg hJ hc hu iW (hrd' x1 (by simp))).trans (h1 f),(jg hJ hc hu iW (hrd' x2 (by simp))).trans (h2 f),(jg hJ hc hu iW (hrd' x3 (by simp))).trans (h3 f),(jg hJ hc hu iW (hrd' x4 (by simp))).trans (h4 f)]) hr
theorem SyG (hW:uL l sy=true) (hr:dR P Q l T w old sy pt a r (i+1)) {v:Value} (h:∀ (u:World) (b:Act) (K:Act→World→Prop),Kept T w u→K (b.put o.dst v) u→Oper.wp P o b u K Q) (hg:o.guard=none:=by rfl) (hs:sy[i]? = some (Yv v):=by rfl) (hq:gH sy pt i=true:=by kernel_rfl):dR P Q l T w old sy pt a (o :: r) i :=
 .cons (fun f b u K hJ hf hc hu iW hK=>by
  rw [if_pos (fu hg)]
  exact h u b K hJ.mem.keep (hK v u (hJ.upd hW hc hf hu hs rfl (by rw [kM hf hq];exact hJ.mem) (fun _=>Below.refl _ _) (CL.no rfl)))) hr
end
theorem Holds.opn {T:Nat→Prop} {w u:World} {L:Nat→Option (Nat×OP)} (h:Holds T w u L) (κ:Nat) {g:Nat} {k:IntKind} {R:List Int→Prop} {t:TypeId} (e:L κ=some (g,RZ k R t)):∃ zs,R zs∧Holds T w u (fun j=>if j=κ then some (g,Bp (arr k zs) t) else L j):=by
 obtain ⟨⟨ob,I9,zs,hx,hz⟩,hT⟩:=h.mem κ g _ e
 refine ⟨zs,hz,fun j g' p hj=>?_,fun j j' g' p q hj hj'=>?_,h.keep⟩
 ·by_cases c:j=κ
  ·rw [if_pos c] at hj
   cases hj
   exact ⟨⟨ob,I9,hx⟩,hT⟩
  ·rw [if_neg c] at hj
   exact h.mem j g' p hj
 ·have A:∀ j p,(if j=κ then some (g,Bp (arr k zs) t) else L j)=some (g',p)→∃ p',L j=some (g',p'):=by
   intro j p hj
   by_cases c:j=κ
   ·rw [if_pos c] at hj
    cases hj
    exact ⟨_,c▸e⟩
   ·rw [if_neg c] at hj
    exact ⟨p,hj⟩
  obtain ⟨p',h1⟩:=A j p hj
  obtain ⟨q',h2⟩:=A j' q hj'
  exact h.inj j j' g' _ _ h1 h2
end Go.Proofs.YthdgbgleklkaiaaDoor
namespace Go.Proofs.YthdgbgleklkaiaaDoor
open Go.RowKit
theorem qz (place:Nat→Option (Nat×Nat)) (k:IntKind) (X Y a:List Int) (i off:Nat) (rest:List (Nat×Value)) (ho:off=X.length) (hp:place i=some (off,a.length)) (hY:a.length≤Y.length) :
  Instr.fill place (arr k (X ++ Y)) ((i, .agg (arr k a)) :: rest)=Instr.fill place (arr k (X ++ a ++ Y.drop a.length)) rest:=by
 subst ho
 have s:(Value.agg (arr k a)).cells.size=a.length:=by simp [Value.cells,aF]
 rw [CR _ _ _ _ _ X.length (by rw [s];exact hp) (by rw [s,aF,List.length_append];omega)]
 congr 1
 simp only [Value.cells,arr,List.size_toArray,List.length_map,List.map_append]
 congr 1
 have e1:List.take X.length (X.map (Value.int k) ++ Y.map (Value.int k))=X.map (Value.int k):=List.take_left' (by simp)
 have e2:List.drop (X.length+a.length) (X.map (Value.int k) ++ Y.map (Value.int k))=(Y.drop a.length).map (Value.int k):=by
  rw [List.drop_append,List.drop_eq_nil_of_le (by simp),List.length_map,Nat.add_sub_cancel_left,List.nil_append,List.map_drop]
 rw [e1,e2]
theorem fill4 (k:IntKind) (n:Nat) (a b c d z:List Int) (ha:a.length=n) (hb:b.length=n) (hc:c.length=n) (hd:d.length=n) (hz:z.length=4 * n) :
  Instr.fill (fun x => #[((0:Nat),n),(n,n),(2 * n,n),(3 * n,n)][x]?) (arr k z)
   [(0, .agg (arr k a)),(1, .agg (arr k b)),(2, .agg (arr k c)),(3, .agg (arr k d))]=some (arr k (a ++ b ++ c ++ d)):=by
 have h0:=qz (fun x => #[((0:Nat),n),(n,n),(2 * n,n),(3 * n,n)][x]?) k [] z a 0 0 [(1, .agg (arr k b)),(2, .agg (arr k c)),(3, .agg (arr k d))] rfl (by rw [ha];rfl) (by omega)
 have h1:=qz (fun x => #[((0:Nat),n),(n,n),(2 * n,n),(3 * n,n)][x]?) k a (z.drop n) b 1 n [(2, .agg (arr k c)),(3, .agg (arr k d))] ha.symm (by rw [hb];rfl) (by rw [List.length_drop];omega)
 have h2:=qz (fun x => #[((0:Nat),n),(n,n),(2 * n,n),(3 * n,n)][x]?) k (a ++ b) ((z.drop n).drop n) c 2 (2 * n) [(3, .agg (arr k d))] (by rw [List.length_append];omega) (by rw [hc];rfl) (by rw [List.length_drop,List.length_drop];omega)
 have h3:=qz (fun x => #[((0:Nat),n),(n,n),(2 * n,n),(3 * n,n)][x]?) k (a ++ b ++ c) (((z.drop n).drop n).drop n) d 3 (3 * n) [] (by rw [List.length_append,List.length_append];omega) (by rw [hd];rfl) (by rw [List.length_drop,List.length_drop,List.length_drop];omega)
 simp only [List.nil_append,ha] at h0
 rw [hb] at h1
 rw [hc] at h2
 rw [hd] at h3
 rw [h0,h1,h2,h3,Instr.fill]
 have e:(((z.drop n).drop n).drop n).drop n=[]:=List.drop_eq_nil_of_le (by rw [List.length_drop,List.length_drop,List.length_drop];omega)
 rw [e,List.append_nil]
end Go.Proofs.YthdgbgleklkaiaaDoor
namespace Go.Proofs.YthdgbgleklkaiaaDoor.Wr
open Go.RowKit
theorem Vt:(Tryd.prog.info? 5).map (fun i=>(i.zero,i.size,i.bytes))=some (some (.int .u8 0),1,1):=by kernel_rfl
theorem wY {w:World} {ops:Array Oper} {o:Oper} {a:Act} {K:Act→World→Prop} {Q:Exit→Act→World→Prop} {E:Prop} (hgd:o.guard=none) (s x:Operand)
  (ho:o.op = .call { callee := .builtin .append,args := #[s,x],argTypes := #[24, 24] }) (g n m c:Nat) (a2:Addr) (xs ys:List Int) (hs:a.eval s = .slice (some ⟨g,0,none⟩) n n) (hx:a.eval x = .slice (some a2) m c)
  (h1:Src w (some ⟨g,0,none⟩) n xs) (h2:Src w (some a2) m ys) (hm:0 < m) (hle:n+m≤1099511627776)
  (h:∀ g' cap w',Src w' (some ⟨g',0,none⟩) (n+m) (xs ++ ys)→n+m≤cap→Below w.heap.size w w'→K (a.put o.dst (.slice (some ⟨g',0,none⟩) (n+m) cap)) w') :
  if Region.wanted o (yielded ops a.tmps)=true then Oper.wp Tryd.prog o a w K Q else E:=by
 have hw:Region.wanted o (yielded ops a.tmps)=true:=by simp [Region.wanted,hgd]
 rw [if_pos hw]
 obtain ⟨i0,hi,hz⟩:=Option.map_eq_some_iff.1 Vt
 simp only [Prod.mk.injEq] at hz
 obtain ⟨z0,z1,z2⟩:=hz
 obtain ⟨v',w',hrun,hown,hgr⟩:=run_append_arg_grows (P := Tryd.prog) w 24 o.type 5 i0 (.int .u8 0) 1 1 Tryd.underlying24 hi z0 z1 z2 rfl (by decide) ⟨g,0,none⟩ n n (xs.map (Value.int .u8)) (by simp [h1.len]) (jf h1 _ rfl) a2 m c (ys.map (Value.int .u8)) (by simp [h2.len]) (jf h2 _ rfl) (by omega) (by unfold maxLen;omega) (by omega)
 have hb:Below w.heap.size w w':=⟨hgr.os,hgr.tape,hgr.output,hgr.size,fun k hk=>hgr.block k hk (by simp)⟩
 unfold Oper.wp execOp
 simp only [ho,resolve,invoke,builtin,Sem.run_bind,Sem.run_pure,Result.andThen_ok,List.map_toArray,List.map_cons,List.map_nil,hs,hx,hrun]
 rcases hown.2 with ⟨-, h0⟩|⟨g',cap,cur,rfl, -, -, hcap, -⟩
 ·exact absurd h0 (by omega)
 ·refine h g' cap w' ⟨by rw [List.length_append,h1.len,h2.len],fun j hj=>⟨_,rfl,?_⟩⟩ hcap hb
  rw [← List.map_append] at hown
  refine World.ownsRow.cells hown (g:=g') rfl j _ ?_
  have hj2:j < (xs ++ ys).length:=by rw [List.length_append,h1.len,h2.len];exact hj
  rw [List.getElem?_map,List.getD,List.getElem?_eq_getElem hj2]
  rfl
end Go.Proofs.YthdgbgleklkaiaaDoor.Wr
namespace Go.Proofs.YthdgbgleklkaiaaDoor.Ch
open Go.RowKit
structure Tk (w wr:World) (key aK:List Int) (g ob:Nat) (sp:List Value) (out st:List Int):Prop where
 bk:wr.heap[w.heap.size]? = some (.cells (arr .u8 key) 23 (0,0))
 bn:wr.heap[w.heap.size+1]? = some (.cells (arr .u8 aK) 108 (0,0))
 bo:wr.heap[g]? = some (.cells (jK out sp) 5 (0,0))
 bs:wr.heap[ob]? = some (.cells (arr .u8 st) 26 (0,0))
 below:Below w.heap.size w wr
 lg:w.heap.size+1 < g
 lo:w.heap.size+1 < ob
 ne:g≠ob
theorem Tk.after {w wr w':World} {key aK:List Int} {g ob:Nat} {sp:List Value} {out st:List Int} (h:Tk w wr key aK g ob sp out st) (b:Below wr.heap.size wr w'):Tk w w' key aK g ob sp out st :=
 ⟨Below.blk b h.bk (aR h.bk),Below.blk b h.bn (aR h.bn),Below.blk b h.bo (aR h.bo),Below.blk b h.bs (aR h.bs),h.below.trans (b.mono h.below.size),h.lg,h.lo,h.ne⟩
theorem Tk.drewN {w wr:World} {key aK:List Int} {g ob:Nat} {sp:List Value} {out st:List Int} (h:Tk w wr key aK g ob sp out st) (n:Nat):Tk w (wr.drewN n) key aK g ob sp out st:=⟨h.bk,h.bn,h.bo,h.bs,Go.Proofs.YthdgbgleklkaiaaDoor.Below.drewN h.below n,h.lg,h.lo,h.ne⟩
theorem Tk.drew {w wr:World} {key aK:List Int} {g ob:Nat} {sp:List Value} {out st:List Int} (h:Tk w wr key aK g ob sp out st):Tk w wr.drew key aK g ob sp out st:=⟨h.bk,h.bn,h.bo,h.bs,⟨h.below.os,h.below.tape,h.below.output,h.below.size,h.below.block⟩,h.lg,h.lo,h.ne⟩
theorem Tk.fresh {w wr w':World} {key aK:List Int} {g ob:Nat} {sp:List Value} {out st st':List Int} (h:Tk w wr key aK g ob sp out st) (k:Kept (fun i=>i=ob) wr w') (hb:w'.heap[ob]? = some (.cells (arr .u8 st') 26 (0,0))):Tk w w' key aK g ob sp out st':=by
 have l1:=h.lo
 have l2:=h.ne
 exact ⟨k.blk h.bk (by omega),k.blk h.bn (by omega),k.blk h.bo (by omega),hb,h.below.trans (k.toBelow h.below.size (by rintro i rfl;omega)),h.lg,l1,l2⟩
theorem Tk.set {w wr:World} {key aK:List Int} {g ob:Nat} {sp:List Value} {out st:List Int} (h:Tk w wr key aK g ob sp out st) (i:Nat) (x:Int) (hi:i < out.length):Tk w (wr.setCell ⟨g,i,none⟩ (.int .u8 x)) key aK g ob sp (out.set i x) st:=by
 have l1:=h.lg
 have l2:=h.ne
 refine ⟨aB h.bk _ (by omega),aB h.bn _ (by omega),?_,aB h.bs _ (by omega),h.below.setCell (p:=⟨g,i,none⟩) (by simp;omega) _,l1,h.lo,l2⟩
 rw [bC h.bo,Uq _ _ _ hi]
def Begun (key:List Int) (c:Int) (aK st:List Int) (i:Nat):Prop:=st.length=64∧(i % 64≠0→st=block key ((c+(i / 64:Nat)) % 4294967296) aK)
theorem turn_at (key:List Int) (c:Int) (aK b:List Int) (i:Nat) (h:i < b.length):(turn key c aK b).getD i 0=bits .xor .u8 (b.getD i 0) ((block key ((c+(i / 64:Nat)) % 4294967296) aK).getD (i % 64) 0):=by
 simp [turn,List.getD,h]
theorem OI (T r:List Int) (i n:Nat) (x:Int) (hT:T.length=n) (hr:r.length=n) (h:i < n) (hx:x=T.getD i 0):(T.take i ++ r.drop i).set i x=T.take (i+1) ++ r.drop (i+1):=by
 rw [List.set_append_right _ _ (by simp;omega),show i - (T.take i).length=0 by simp;omega,List.drop_eq_getElem_cons (by omega),List.set_cons_zero,iD T i 0 (by omega),hx]
 simp
theorem mix_len (T r:List Int) (i n:Nat) (hT:T.length=n) (hr:r.length=n) (h:i≤n):(T.take i ++ r.drop i).length=n:=by simp;omega
theorem mix_get (T r:List Int) (i n:Nat) (hT:T.length=n) (hr:r.length=n) (h:i < n):(T.take i ++ r.drop i).getD i 0=r.getD i 0:=by
 simp only [List.getD]
 rw [List.getElem?_append_right (by simp;omega),List.getElem?_drop]
 congr 2
 simp
 omega
end Go.Proofs.YthdgbgleklkaiaaDoor.Ch
namespace Go.Proofs.YthdgbgleklkaiaaDoor.Ed
section
variable {n:Nat} [NeZero n]
def On (d x y:Fin n):Prop:=y*y=x*x+1+d*(x*x)*(y*y)
structure Qc (d:Fin n):Prop where
 int:∀ a b:Fin n,a * b=0→a=0∨b=0
 im:∃ i:Fin n,i * i = -1
 non:∀ a b:Fin n,a * a=d * (b * b)→b=0
 two:(2:Fin n)≠0
 one:(1:Fin n)≠0
theorem half (d x1 y1 x2 y2 i e:Fin n) (hi:i * i = -1) (h1:On d x1 y1) (h2:On d x2 y2) (he:d*x1*x2*y1*y2=e) (hee:e * e=1) :
  (i*x1+e*y1)*(i*x1+e*y1)=d*((i*(i*x1)*y1*(i*x2+y2))*(i*(i*x1)*y1*(i*x2+y2))):=by
 unfold On at *
 grind
theorem half' (d x1 y1 x2 y2 i e:Fin n) (hi:i * i = -1) (h1:On d x1 y1) (h2:On d x2 y2) (he:d*x1*x2*y1*y2=e) (hee:e * e=1) :
  (i*x1 - e*y1)*(i*x1 - e*y1)=d*((i*(i*x1)*y1*(i*x2 - y2))*(i*(i*x1)*y1*(i*x2 - y2))):=by
 unfold On at *
 grind
theorem OD {d x1 y1 x2 y2 e:Fin n} (F:Qc d) (h1:On d x1 y1) (h2:On d x2 y2) (he:d*x1*x2*y1*y2=e) (hee:e * e=1):False:=by
 obtain ⟨i,hi⟩:=F.im
 have a1:=F.non _ _ (half d x1 y1 x2 y2 i e hi h1 h2 he hee)
 have a2:=F.non _ _ (half' d x1 y1 x2 y2 i e hi h1 h2 he hee)
 have hxy:¬ x1 * y1=0:=fun h=>F.one (by
  have:e=d * x2 * y2 * (x1 * y1):=by rw [← he];grind
  rw [h] at this
  grind)
 have b1:(x1 * y1) * (i*x2+y2)=0:=by grind
 have b2:(x1 * y1) * (i*x2 - y2)=0:=by grind
 have c1:=(F.int _ _ b1).resolve_left hxy
 have c2:=(F.int _ _ b2).resolve_left hxy
 have c3:2 * y2=0:=by grind
 have c4:=(F.int _ _ c3).resolve_left F.two
 exact F.one (by rw [c4] at he;grind)
theorem whole {d x1 y1 x2 y2:Fin n} (F:Qc d) (h1:On d x1 y1) (h2:On d x2 y2):1+d*x1*x2*y1*y2≠0∧1 - d*x1*x2*y1*y2≠0:=by
 constructor
 ·intro h
  exact OD F h1 h2 rfl (by grind)
 ·intro h
  exact OD F h1 h2 rfl (by grind)
theorem closed (d x1 y1 x2 y2 u v:Fin n) (h1:On d x1 y1) (h2:On d x2 y2) (hu:(1+d*x1*x2*y1*y2)*u=1) (hv:(1 - d*x1*x2*y1*y2)*v=1):On d ((x1*y2+y1*x2)*u) ((y1*y2+x1*x2)*v):=by
 unfold On at *
 grind
theorem as_x (d x1 y1 x2 y2 x3 y3:Fin n) (h1:On d x1 y1) (h2:On d x2 y2) (h3:On d x3 y3) :
  ((x1*y2+y1*x2)*(1-d*x1*x2*y1*y2)*y3+(y1*y2+x1*x2)*(1+d*x1*x2*y1*y2)*x3)*((1+d*x2*x3*y2*y3)*(1-d*x2*x3*y2*y3)+d*(x2*y3+y2*x3)*(y2*y3+x2*x3)*x1*y1)=(x1*(y2*y3+x2*x3)*(1+d*x2*x3*y2*y3)+y1*(x2*y3+y2*x3)*(1-d*x2*x3*y2*y3))*((1+d*x1*x2*y1*y2)*(1-d*x1*x2*y1*y2)+d*(x1*y2+y1*x2)*(y1*y2+x1*x2)*x3*y3):=by
 unfold On at *
 grind
theorem as_y (d x1 y1 x2 y2 x3 y3:Fin n) (h1:On d x1 y1) (h2:On d x2 y2) (h3:On d x3 y3) :
  ((y1*y2+x1*x2)*(1+d*x1*x2*y1*y2)*y3+(x1*y2+y1*x2)*(1-d*x1*x2*y1*y2)*x3)*((1+d*x2*x3*y2*y3)*(1-d*x2*x3*y2*y3) - d*(x2*y3+y2*x3)*(y2*y3+x2*x3)*x1*y1)=(y1*(y2*y3+x2*x3)*(1+d*x2*x3*y2*y3)+x1*(x2*y3+y2*x3)*(1-d*x2*x3*y2*y3))*((1+d*x1*x2*y1*y2)*(1-d*x1*x2*y1*y2) - d*(x1*y2+y1*x2)*(y1*y2+x1*x2)*x3*y3):=by
 unfold On at *
 grind
def Inv (inv:Fin n→Fin n):Prop:=∀ a:Fin n,a≠0→a * inv a=1
def gX (d:Fin n) (inv:Fin n→Fin n) (P Q:Fin n×Fin n):Fin n×Fin n :=
 ((P.1*Q.2+P.2*Q.1) * inv (1+d*P.1*Q.1*P.2*Q.2),(P.2*Q.2+P.1*Q.1) * inv (1 - d*P.1*Q.1*P.2*Q.2))
def Mr (d:Fin n) (P:Fin n×Fin n):Prop:=On d P.1 P.2
theorem cross {L R N N' D D':Fin n} (hL:L * D=N) (hR:R * D'=N') (h:N * D'=N' * D):(L - R) * (D * D')=0:=by grind
theorem zsub {L R:Fin n} (h:L - R=0):L=R:=by grind
theorem frac {d L R N N' D D':Fin n} (F:Qc d) (hL:L * D=N) (hR:R * D'=N') (h:N * D'=N' * D) (hD:D≠0) (hD':D'≠0):L=R:=by
 rcases F.int _ _ (cross hL hR h) with h2|h2
 ·exact zsub h2
 ·rcases F.int _ _ h2 with h3|h3
  ·exact absurd h3 hD
  ·exact absurd h3 hD'
theorem jh {d a b:Fin n} (F:Qc d) (ha:a≠0) (hb:b≠0):a * b≠0:=fun h=>(F.int _ _ h).elim ha hb
theorem D6 {d:Fin n} {inv:Fin n→Fin n} (F:Qc d) (I:Inv inv) {P Q:Fin n×Fin n} (h1:Mr d P) (h2:Mr d Q):Mr d (gX d inv P Q):=by
 obtain ⟨a,b⟩:=whole F h1 h2
 exact closed d P.1 P.2 Q.1 Q.2 _ _ h1 h2 (I _ a) (I _ b)
theorem cm1 (d a b c e:Fin n):d*a*b*c*e=d*b*a*e*c:=by grind
theorem cm2 (a b c e:Fin n):a*b+c*e=e*c+b*a:=by grind
theorem cm3 (a b c e:Fin n):a*b+c*e=b*a+e*c:=by grind
theorem add_comm {d:Fin n} {inv:Fin n→Fin n} (P Q:Fin n×Fin n):gX d inv P Q=gX d inv Q P:=by
 unfold gX
 rw [cm1 d P.1 Q.1 P.2 Q.2,cm2 P.1 Q.2 P.2 Q.1,cm3 P.2 Q.2 P.1 Q.1]
theorem cl1 (d A B u v p m x y:Fin n) (hu:p*u=1) (hv:m*v=1):p*m*(1+d*(A*u)*x*(B*v)*y)=p*m+d*A*B*x*y:=by grind
theorem cl2 (d A B u v p m x y:Fin n) (hu:p*u=1) (hv:m*v=1):p*m*(1+d*x*(A*u)*y*(B*v))=p*m+d*A*B*x*y:=by grind
theorem cl3 (d A B u v p m x y:Fin n) (hu:p*u=1) (hv:m*v=1):p*m*(1 - d*(A*u)*x*(B*v)*y)=p*m - d*A*B*x*y:=by grind
theorem cl4 (d A B u v p m x y:Fin n) (hu:p*u=1) (hv:m*v=1):p*m*(1 - d*x*(A*u)*y*(B*v))=p*m - d*A*B*x*y:=by grind
theorem nm1 (A B u v p m x y w X:Fin n) (hu:p*u=1) (hv:m*v=1) (hw:X*w=1):((A*u)*y+(B*v)*x)*w*(p*m*X)=A*m*y+B*p*x:=by grind
theorem nm2 (A B u v p m x y w X:Fin n) (hu:p*u=1) (hv:m*v=1) (hw:X*w=1):(x*(B*v)+y*(A*u))*w*(p*m*X)=x*B*p+y*A*m:=by grind
theorem nm3 (A B u v p m x y w X:Fin n) (hu:p*u=1) (hv:m*v=1) (hw:X*w=1):((B*v)*y+(A*u)*x)*w*(p*m*X)=B*p*y+A*m*x:=by grind
theorem add_assoc {d:Fin n} {inv:Fin n→Fin n} (F:Qc d) (I:Inv inv) {P Q R:Fin n×Fin n} (h1:Mr d P) (h2:Mr d Q) (h3:Mr d R):gX d inv (gX d inv P Q) R=gX d inv P (gX d inv Q R):=by
 have h12:=D6 F I h1 h2
 have h23:=D6 F I h2 h3
 obtain ⟨p1,m1⟩:=whole F h1 h2
 obtain ⟨p2,m2⟩:=whole F h2 h3
 obtain ⟨p3,m3⟩:=whole F h12 h3
 obtain ⟨p4,m4⟩:=whole F h1 h23
 obtain ⟨x1,y1⟩:=P
 obtain ⟨x2,y2⟩:=Q
 obtain ⟨x3,y3⟩:=R
 have u1:=I _ p1
 have v1:=I _ m1
 have u2:=I _ p2
 have v2:=I _ m2
 have u3:=I _ p3
 have v3:=I _ m3
 have u4:=I _ p4
 have v4:=I _ m4
 simp only [gX] at *
 generalize inv (1+d*x1*x2*y1*y2)=u at *
 generalize inv (1 - d*x1*x2*y1*y2)=v at *
 generalize inv (1+d*x2*x3*y2*y3)=u' at *
 generalize inv (1 - d*x2*x3*y2*y3)=v' at *
 have k1:=as_x d x1 y1 x2 y2 x3 y3 h1 h2 h3
 have k2:=as_y d x1 y1 x2 y2 x3 y3 h1 h2 h3
 have q1:=jh F (jh F p1 m1) p3
 have q2:=jh F (jh F p2 m2) p4
 have q3:=jh F (jh F p1 m1) m3
 have q4:=jh F (jh F p2 m2) m4
 have e1:=cl1 d (x1*y2+y1*x2) (y1*y2+x1*x2) u v _ _ x3 y3 u1 v1
 have e2:=cl2 d (x2*y3+y2*x3) (y2*y3+x2*x3) u' v' _ _ x1 y1 u2 v2
 have e3:=cl3 d (x1*y2+y1*x2) (y1*y2+x1*x2) u v _ _ x3 y3 u1 v1
 have e4:=cl4 d (x2*y3+y2*x3) (y2*y3+x2*x3) u' v' _ _ x1 y1 u2 v2
 rw [← e1,← e2] at k1
 rw [← e3,← e4] at k2
 apply Prod.ext
 ·exact frac F (nm1 _ _ _ _ _ _ _ _ _ _ u1 v1 u3) (nm2 _ _ _ _ _ _ _ _ _ _ u2 v2 u4) k1 q1 q2
 ·exact frac F (nm3 _ _ _ _ _ _ _ _ _ _ u1 v1 v3) (nm2 _ _ _ _ _ _ _ _ _ _ u2 v2 v4) k2 q3 q4
theorem o1 (d a b:Fin n):1+d*a*0*b*1=1:=by grind
theorem o2 (d a b:Fin n):1 - d*a*0*b*1=1:=by grind
theorem o3 (a b k:Fin n) (h:1 * k=1):(a * 1+b * 0) * k=a:=by grind
theorem add_zero {d:Fin n} {inv:Fin n→Fin n} (I:Inv inv) (h1:(1:Fin n)≠0) (P:Fin n×Fin n):gX d inv P (0,1)=P:=by
 have k:=I 1 h1
 simp only [gX]
 rw [o1,o2]
 exact Prod.ext (o3 _ _ _ k) (o3 _ _ _ k)
end
end Go.Proofs.YthdgbgleklkaiaaDoor.Ed
namespace Go.Proofs.YthdgbgleklkaiaaDoor.Ed
open Pri
abbrev K:=Fin P0
instance:NeZero P0:=⟨by decide +kernel⟩
def toK (x:Nat):K:=Fin.ofNat P0 x
theorem iV (x:Nat):(toK x).val=x % P0:=rfl
theorem Jt (x:Nat):toK (x % P0)=toK x:=Fin.ext (by rw [iV,iV,Nat.mod_mod])
theorem iU (a:K):toK a.val=a:=Fin.ext (by rw [iV];exact Nat.mod_eq_of_lt a.isLt)
theorem Ju (x y:Nat):toK (x+y)=toK x+toK y:=Fin.ext (by rw [Fin.val_add,iV,iV,iV,← Nat.add_mod])
theorem lS (x y:Nat):toK (x * y)=toK x * toK y:=Fin.ext (by rw [Fin.val_mul,iV,iV,iV,← Nat.mul_mod])
theorem to_sub {x y:Nat} (h:y < P0):toK (x+P0 - y)=toK x - toK y:=by
 have h1:toK (x+P0 - y)+toK y=toK x:=by
  rw [← Ju,show x+P0 - y+y=x+P0 by omega]
  exact Fin.ext (by rw [iV,iV,Nat.add_mod_right])
 grind
theorem to_eq {x y:Nat}:toK x=toK y↔x % P0=y % P0:=⟨fun h=>by have:=congrArg Fin.val h;rwa [iV,iV] at this,fun h=>Fin.ext h⟩
theorem mY {x:Nat}:toK x=0↔x % P0=0:=by
 rw [show (0:K)=toK 0 from rfl,to_eq,Nat.zero_mod]
theorem int {a b:K} (h:a * b=0):a=0∨b=0:=by
 rw [← iU a,← iU b,← lS,mY] at h
 rcases prP.dvd_mul (Nat.dvd_of_mod_eq_zero h) with h1|h1
 ·left;rw [← iU a];exact mY.2 (Nat.mod_eq_zero_of_dvd h1)
 ·right;rw [← iU b];exact mY.2 (Nat.mod_eq_zero_of_dvd h1)
def D0:Nat:=37095705934669439343138083508754565189542113879843219016388785533085940283555
def I0:Nat:=19681161376707505956807079304988542015446066515923890162744021073123829784752
def H0:Nat:=(P0 - 1) / 2
theorem d_half:D0 ^ H0 % P0=P0 - 1:=by
 rw [← xO P0 D0 H0 (by decide +kernel)]
 decide +kernel
theorem non {a b:K} (h:a * a=toK D0 * (b * b)):b=0:=by
 rcases Classical.em (b=0) with hb|hb
 ·exact hb
 exfalso
 have hb':b.val % P0≠0:=fun e=>hb (by rw [← iU b];exact mY.2 e)
 have e1:(a.val * a.val) % P0=(D0 * (b.val * b.val)) % P0:=by
  rw [← to_eq,lS,lS,lS,iU,iU];exact h
 have e2:(a.val * a.val) ^ H0 % P0=(D0 * (b.val * b.val)) ^ H0 % P0:=by
  rw [Nat.pow_mod,e1,← Nat.pow_mod]
 have h2:H0+H0=P0 - 1:=by decide +kernel
 rw [Nat.mul_pow,Nat.mul_pow,Nat.mul_pow,← Nat.pow_add,← Nat.pow_add,h2,Nat.mul_mod,d_half,u7 _ hb',Nat.mul_one,Nat.mod_eq_of_lt (show P0 - 1 < P0 by decide +kernel)] at e2
 by_cases ha:a.val % P0=0
 ·rw [Nat.pow_mod,ha,Nat.zero_pow (by decide +kernel)] at e2
  exact absurd e2 (by decide +kernel)
 ·rw [u7 _ ha] at e2
  exact absurd e2 (by decide +kernel)
theorem mK:Qc (toK D0) where
 int _ _ h:=int h
 im:=⟨toK I0,by decide +kernel⟩
 non _ _ h:=non h
 two:=by decide +kernel
 one:=by decide +kernel
def inv (a:K):K:=toK (a.val ^ (P0 - 2))
theorem dJ:Inv inv:=by
 intro a ha
 have h1:a.val % P0≠0:=fun e=>ha (by rw [← iU a];exact mY.2 e)
 unfold inv
 rw [← congrArg (· * toK (a.val ^ (P0 - 2))) (iU a)]
 show toK a.val * toK (a.val ^ (P0 - 2))=1
 rw [← lS,Nat.mul_comm,← Nat.pow_succ,show (P0 - 2).succ=P0 - 1 by decide +kernel]
 show toK _=toK 1
 rw [to_eq,u7 _ h1]
 decide +kernel
end Go.Proofs.YthdgbgleklkaiaaDoor.Ed
namespace Go.Proofs.YthdgbgleklkaiaaDoor.Ed
section
variable {n:Nat} [NeZero n]
theorem xa (a1 a2 b1 b2 z1 z2:Fin n):(a2*z1+a1*z1)*(b2*z2+b1*z2) - (a2*z1 - a1*z1)*(b2*z2 - b1*z2)=2*z1*z2*(a1*b2+a2*b1):=by grind
theorem xb (a1 a2 b1 b2 z1 z2:Fin n):(a2*z1+a1*z1)*(b2*z2+b1*z2)+(a2*z1 - a1*z1)*(b2*z2 - b1*z2)=2*z1*z2*(a2*b2+a1*b1):=by grind
theorem xc (d a1 a2 b1 b2 z1 z2:Fin n):z1*(z2+z2) - (a1*a2*z1)*(d+d)*(b1*b2*z2)=2*z1*z2*(1 - d*a1*b1*a2*b2):=by grind
theorem xd (d a1 a2 b1 b2 z1 z2:Fin n):z1*(z2+z2)+(a1*a2*z1)*(d+d)*(b1*b2*z2)=2*z1*z2*(1+d*a1*b1*a2*b2):=by grind
theorem xe (w A u m p:Fin n) (h:p*u=1):(w*A)*(w*m)=(A*u)*((w*m)*(w*p)):=by grind
theorem xf (w B v m p:Fin n) (h:m*v=1):(w*p)*(w*B)=(B*v)*((w*m)*(w*p)):=by grind
theorem xg (w A B u v m p:Fin n) (h:p*u=1) (h':m*v=1):(w*A)*(w*B)=(A*u)*(B*v)*((w*m)*(w*p)):=by grind
structure Ext (x y z t:Fin n) (A:Fin n×Fin n):Prop where
 ez:z≠0
 ex:x=A.1 * z
 ey:y=A.2 * z
 et:t=A.1 * A.2 * z
theorem Ext.add {d:Fin n} {inv:Fin n→Fin n} (F:Qc d) (I:Inv inv) {x1 y1 z1 t1 x2 y2 z2 t2:Fin n} {A B:Fin n×Fin n} (hA:Mr d A) (hB:Mr d B)
  (E1:Ext x1 y1 z1 t1 A) (E2:Ext x2 y2 z2 t2 B) {a b c z:Fin n} (ha:a=(y1 - x1)*(y2 - x2)) (hb:b=(y1+x1)*(y2+x2)) (hc:c=t1*(d+d)*t2) (hz:z=z1*(z2+z2)) :
  Ext ((b - a)*(z - c)) ((z+c)*(b+a)) ((z - c)*(z+c)) ((b - a)*(b+a)) (gX d inv A B):=by
 obtain ⟨p1,m1⟩:=whole F hA hB
 have u1:=I _ p1
 have v1:=I _ m1
 have n1:=E1.ez
 have n2:=E2.ez
 have e1:b - a=2*z1*z2*(A.1*B.2+A.2*B.1):=by rw [ha,hb,E1.ex,E1.ey,E2.ex,E2.ey];exact xa _ _ _ _ _ _
 have e2:b+a=2*z1*z2*(A.2*B.2+A.1*B.1):=by rw [ha,hb,E1.ex,E1.ey,E2.ex,E2.ey];exact xb _ _ _ _ _ _
 have e3:z - c=2*z1*z2*(1 - d*A.1*B.1*A.2*B.2):=by rw [hc,hz,E1.et,E2.et];exact xc _ _ _ _ _ _ _
 have e4:z+c=2*z1*z2*(1+d*A.1*B.1*A.2*B.2):=by rw [hc,hz,E1.et,E2.et];exact xd _ _ _ _ _ _ _
 have hw:(2*z1*z2:Fin n)≠0:=jh F (jh F F.two n1) n2
 rw [e1,e2,e3,e4]
 exact ⟨jh F (jh F hw m1) (jh F hw p1),xe _ _ _ _ _ u1,xf _ _ _ _ _ v1,xg _ _ _ _ _ _ _ u1 v1⟩
def times (d:Fin n) (inv:Fin n→Fin n) (A:Fin n×Fin n):Nat→Fin n×Fin n
 | 0=>(0,1)
 | k+1=>gX d inv (times d inv A k) A
theorem on_zero (d:Fin n):Mr d (0,1):=by
 show (1:Fin n)*1=0*0+1+d*(0*0)*(1*1)
 grind
theorem iN {d:Fin n} {inv:Fin n→Fin n} (F:Qc d) (I:Inv inv) {A:Fin n×Fin n} (hA:Mr d A):∀ k,Mr d (times d inv A k)
 | 0=>on_zero d
 | k+1=>D6 F I (iN F I hA k) hA
theorem iX {d:Fin n} {inv:Fin n→Fin n} (F:Qc d) (I:Inv inv) {A:Fin n×Fin n} (hA:Mr d A) (j:Nat):∀ k,times d inv A (j+k)=gX d inv (times d inv A j) (times d inv A k)
 | 0=>(add_zero I F.one _).symm
 | k+1=>by
  show gX d inv (times d inv A (j+k)) A=gX d inv _ (gX d inv (times d inv A k) A)
  rw [iX F I hA j k,add_assoc F I (iN F I hA j) (iN F I hA k) hA]
theorem zero_add {d:Fin n} {inv:Fin n→Fin n} (F:Qc d) (I:Inv inv) (A:Fin n×Fin n):gX d inv (0,1) A=A:=by
 rw [add_comm];exact add_zero I F.one A
theorem uP {d:Fin n} {inv:Fin n→Fin n} (F:Qc d) (I:Inv inv) {A:Fin n×Fin n} (hA:Mr d A) (j:Nat):∀ k,times d inv A (j * k)=times d inv (times d inv A j) k
 | 0=>rfl
 | k+1=>by
  show times d inv A (j * k+j)=gX d inv (times d inv (times d inv A j) k) _
  rw [iX F I hA,uP F I hA j k]
theorem yA {d:Fin n} {inv:Fin n→Fin n} (F:Qc d) (I:Inv inv):∀ k,times d inv (0,1) k=(0,1)
 | 0=>rfl
 | k+1=>by
  show gX d inv (times d inv (0,1) k) (0,1)=(0,1)
  rw [yA F I k,add_zero I F.one]
theorem Qm {d:Fin n} {inv:Fin n→Fin n} (F:Qc d) (I:Inv inv) {A:Fin n×Fin n} (hA:Mr d A) {q:Nat} (hq:times d inv A q=(0,1)) (k:Nat):times d inv A (k % q)=times d inv A k:=by
 have h:times d inv A k=gX d inv (times d inv A (q * (k / q))) (times d inv A (k % q)):=by
  rw [← iX F I hA,Nat.div_add_mod]
 rw [h,uP F I hA,hq,yA F I,zero_add F I]
end
end Go.Proofs.YthdgbgleklkaiaaDoor.Ed
namespace Go.Proofs.YthdgbgleklkaiaaDoor.Ed
open Go.RowKit Lm Fp Cu Pri
theorem QM:Fp.p=P0:=rfl
theorem Dz (x y:Nat):toK (aJ x y)=toK x+toK y:=by rw [aJ,QM,Jt,Ju]
theorem gG (x y:Nat):toK (aA x y)=toK x * toK y:=by rw [aA,QM,Jt,lS]
theorem ku (x:Nat) {y:Nat} (h:y < Fp.p):toK (aX x y)=toK x - toK y:=by rw [aX,QM,Jt,to_sub h]
structure Is (P:Pt) (A:K×K):Prop where
 ok:P.Ok
 ext:Ext (toK P.x) (toK P.y) (toK P.z) (toK P.t) A
abbrev add (A B:K×K):K×K:=gX (toK D0) inv A B
abbrev on (A:K×K):Prop:=Mr (toK D0) A
abbrev tm (A:K×K) (k:Nat):K×K:=times (toK D0) inv A k
theorem d_is:dd=D0:=rfl
theorem Is.add {P Q:Pt} {A B:K×K} (hP:Is P A) (hQ:Is Q B) (hA:on A) (hB:on B):Is (Cu.gX P Q) (add A B):=by
 refine ⟨eadd_ok P Q,?_⟩
 have h:=Ext.add mK dJ hA hB hP.ext hQ.ext rfl rfl rfl rfl
 simp only [Cu.gX,gG,Dz,ku _ (dD _ _),ku _ hP.ok.x,ku _ hQ.ok.x,d_is]
 exact h
theorem Is.nought:Is nought (0,1):=⟨QS,⟨by decide +kernel,by decide +kernel,by decide +kernel,by decide +kernel⟩⟩
theorem Is.mul {P:Pt} {A:K×K} (hP:Is P A) (hA:on A) (k:Nat) (hk:k < 2 ^ 256):∀ n,n≤256→Is (jU P k n) (tm A (k / 2 ^ (256 - n)))
 | 0,_=>by
  rw [Nat.sub_zero,Nat.div_eq_of_lt hk]
  exact Is.nought
 | n+1,hn=>by
  have ih:=Is.mul hP hA k hk n (by omega)
  have ho:=iN mK dJ hA (k / 2 ^ (256 - n))
  have h2:=ih.add ih ho ho
  have h1:256 - n=(255 - n)+1:=by omega
  have h3:k / 2 ^ (256 - n)=k / 2 ^ (255 - n) / 2:=by rw [h1,Nat.pow_succ,Nat.div_div_eq_div_mul]
  rw [show 256 - (n+1)=255 - n by omega]
  rw [show Ed.add (tm A (k / 2 ^ (256 - n))) (tm A (k / 2 ^ (256 - n)))=tm A (k / 2 ^ (256 - n)+k / 2 ^ (256 - n)) from (iX mK dJ hA _ _).symm,h3] at h2
  unfold jU
  split
  ·rename_i hb
   have e:k / 2 ^ (255 - n)=k / 2 ^ (255 - n) / 2+k / 2 ^ (255 - n) / 2+1:=by omega
   rw [e]
   exact h2.add hP (iN mK dJ hA _) hA
  ·rename_i hb
   have e:k / 2 ^ (255 - n)=k / 2 ^ (255 - n) / 2+k / 2 ^ (255 - n) / 2:=by omega
   rw [e]
   exact h2
theorem Is.GD {P:Pt} {A:K×K} (hP:Is P A) (hA:on A) (k:Nat) (hk:k < 2 ^ 256):Is (jU P k 256) (tm A k):=by
 have h:=hP.mul hA k hk 256 (Nat.le_refl _)
 rwa [show 256 - 256=0 from rfl,Nat.pow_zero,Nat.div_one] at h
def B0:K×K:=(toK bx,toK bY)
theorem Is.base:Is base B0:=⟨base_ok,⟨by decide +kernel,by decide +kernel,by decide +kernel,by decide +kernel⟩⟩
theorem kH:on B0:=by
 show toK bY * toK bY=toK bx * toK bx+1+toK D0 * (toK bx * toK bx) * (toK bY * toK bY)
 decide +kernel
theorem Ext.zero {x y z t:K} {A:K×K} (h:Ext x y z t A) (hx:x=0) (hy:y=z):A=(0,1):=by
 have h1:A.1 * z=0:=by rw [← h.ex,hx]
 have h2:(A.2 - 1) * z=0:=by
  have:=h.ey
  rw [hy] at this
  grind
 refine Prod.ext ((int h1).resolve_right h.ez) ?_
 have:=(int h2).resolve_right h.ez
 show A.2=1
 grind
theorem base_q:tm B0 Sc.q=(0,1):=by
 have h:=Is.base.GD kH Sc.q (by decide +kernel)
 have e:(jU base Sc.q 256).x=0∧(jU base Sc.q 256).y=(jU base Sc.q 256).z:=by decide +kernel
 exact h.ext.zero (by rw [e.1];rfl) (by rw [e.2])
end Go.Proofs.YthdgbgleklkaiaaDoor.Ed
namespace Go.Proofs.YthdgbgleklkaiaaDoor.Ed
open Go.RowKit Lm Fp Cu Pri
def LtP (s:La):Prop:=s.a < p∧s.b < p∧s.c < p∧s.d < p
theorem Vg (x:Nat) (s:La):LtP (lJ x s):=⟨dD _ _,dD _ _,dD _ _,dD _ _⟩
theorem swap_lt {s:La} (h:LtP s) (b:Nat):LtP (s.swap b):=by
 unfold La.swap
 split
 ·exact ⟨h.2.2.1,h.2.2.2,h.1,h.2.1⟩
 ·exact h
theorem lstep_k (x:Nat) (s:La) (h:LtP s) :
  toK (lJ x s).a=(toK s.a+toK s.b) * (toK s.a+toK s.b) * ((toK s.a - toK s.b) * (toK s.a - toK s.b)) ∧
  toK (lJ x s).b=((toK s.a+toK s.b) * (toK s.a+toK s.b) - (toK s.a - toK s.b) * (toK s.a - toK s.b)) * ((toK s.a+toK s.b) * (toK s.a+toK s.b)+toK 121665 * ((toK s.a+toK s.b) * (toK s.a+toK s.b) - (toK s.a - toK s.b) * (toK s.a - toK s.b))) ∧
  toK (lJ x s).c=((toK s.c - toK s.d) * (toK s.a+toK s.b)+(toK s.c+toK s.d) * (toK s.a - toK s.b)) * ((toK s.c - toK s.d) * (toK s.a+toK s.b)+(toK s.c+toK s.d) * (toK s.a - toK s.b)) ∧
  toK (lJ x s).d=toK x * (((toK s.c - toK s.d) * (toK s.a+toK s.b) - (toK s.c+toK s.d) * (toK s.a - toK s.b)) * ((toK s.c - toK s.d) * (toK s.a+toK s.b) - (toK s.c+toK s.d) * (toK s.a - toK s.b))):=by
 unfold lJ
 simp only [gG,Dz,ku _ h.2.1,ku _ h.2.2.2,ku _ (dD _ _)]
 exact ⟨trivial,trivial,trivial,trivial⟩
theorem Jj (a:K):(0:K) * a=0:=by grind
theorem lgo_lt (x k:Nat) (hx:x < p):∀ n,LtP (Ej x k n)
 | 0=>⟨show 1 < p by decide,show 0 < p by decide,hx,show 1 < p by decide⟩
 | n+1=>swap_lt (Vg _ _) _
end Go.Proofs.YthdgbgleklkaiaaDoor.Ed
