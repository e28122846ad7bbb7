/- portcullislaw13.alive: cert.May, cert.body: Certificates and stops in. Condition: as each theorem says. -/

import Derived.Test.YthdgbgleklkaiaaGreatDoorQc20
open Go.Lib renaming hid→abC
open List renaming replicate→abD,length_append→abH,take_of_length_le→abJ,length_take→abQ,length_replicate→abR
open BitVec renaming ofInt→abE,toNat_and→abO
open Nat renaming le_refl→abF,mod_eq_of_lt→abG,le_trans→abI,mod_lt→abK,pow_mod→abL,pow_add→abM,and_two_pow_sub_one_eq_mod→abN
set_option linter.unusedSimpArgs false
set_option linter.unusedVariables false
set_option maxRecDepth 100000
set_option maxHeartbeats 16000000
namespace Go.Proofs.YthdgbgleklkaiaaGreatDoor.Sl
open Go.RowKit Lm Fp Cu Rd Sc
theorem gZ (s:Nat) (b:List Int):(kH s b).length=64:=by rw [kH,abH,cK,cK]
theorem pW (s:Nat) (b:List Int):bytes (kH s b):=jk (eY _) (eY _)
theorem epub_lt (s:Nat):xQ s < 256 ^ 32:=TV _
end Go.Proofs.YthdgbgleklkaiaaGreatDoor.Sl
namespace Go.Proofs.YthdgbgleklkaiaaGreatDoor.Ce
open Go.RowKit
def xJ (id:Int):Bool:=decide (0≤id) && decide (id≤2147483647)
theorem tK (id:Int) (w:World):Calls Tryz.prog 91 #[.int .i64 id] w fun e w'=>e = .returned (.bool (xJ id))∧w=w':=by
 go_enter Tryz.func91, Tryz.ntmps91
 go_wp2_with fail
 all_goals (try simp only [Exit.then])
 ·go_ret
  rename_i h
  refine ⟨?_,rfl⟩
  rw [xJ,decide_eq_true h,Bool.true_and]
  rfl
 ·go_ret
  rename_i h
  refine ⟨?_,rfl⟩
  rw [xJ,decide_eq_false (by omega),Bool.false_and]
  rfl
end Go.Proofs.YthdgbgleklkaiaaGreatDoor.Ce
namespace Go.Proofs.YthdgbgleklkaiaaGreatDoor.Ce
open Go.RowKit Lm Fp Cu Sl Sc
def oF (id:Int) (key:Nat):List Int:=iH [80,67,67,84] [id] ++ n32 key
theorem Uj (id:Int) (key:Nat):(oF id key).length=44:=by rw [oF,abH,gG,cK];rfl
theorem jY {bs ns:List Int} (h:bytes bs):bytes (iH bs ns):=by
 intro x hx
 simp only [iH,List.mem_append,List.mem_flatMap] at hx
 rcases hx with hx|⟨n,_,hx⟩
 ·exact h x hx
 ·exact kT n x hx
theorem JI (id:Int) (key:Nat):bytes (oF id key):=jk (jY (by unfold bytes;decide)) (eY key)
end Go.Proofs.YthdgbgleklkaiaaGreatDoor.Ce
namespace Go.Proofs.YthdgbgleklkaiaaGreatDoor.Ce
open Go.RowKit Lm Fp Cu Sl Sc
theorem rowS:UC Tryz.prog 27 64:=⟨⟨_, Tryz.underlying27, rfl⟩,by kernel_rfl⟩
def isB (xs:List Int) (u:World) (v:Value):Prop:=∃ s c,v = .slice s xs.length c∧xs.length≤c∧Src u s xs.length xs
theorem isB.below {xs:List Int} (u u':World) (v:Value) (k:Below u.heap.size u u') (h:isB xs u v):isB xs u' v:=by
 obtain ⟨s,c,e,h1,h2⟩:=h
 exact ⟨s,c,e,h1,h2.below k⟩
theorem isB.own {xs:List Int} {u:World} {B:Nat} {v:Value} (h:aU u B v xs):isB xs u v:=by
 obtain ⟨s,c,e,h1,_,h2,_⟩:=h.form
 exact ⟨s,c,e,h1,h2⟩
def isL (L:List (List Int)) (u:World) (v:Value):Prop:=∃ g,v = .slice (some ⟨g,0,none⟩) L.length L.length∧om u (some ⟨g,0,none⟩) L.length L
theorem isL.below {L:List (List Int)} (u u':World) (v:Value) (k:Below u.heap.size u u') (h:isL L u v):isL L u' v:=by
 obtain ⟨g,e,h1⟩:=h
 exact ⟨g,e,h1.below k⟩
def dz (id:Int) (ks gs:List Int):Array Value := #[.int .i64 id] ++ arr .u8 ks ++ arr .u8 gs
theorem ZP (id:Int) (ks gs:List Int):(dz id ks gs)[0]? = some (.int .i64 id):=by simp [dz,arr]
end Go.Proofs.YthdgbgleklkaiaaGreatDoor.Ce
namespace Go.Proofs.YthdgbgleklkaiaaGreatDoor.Ce
open Go.RowKit Lm Fp Cu Sl Sc
def stopC (id:Int) (gs:List Int):Array Value := #[.int .i64 id] ++ arr .u8 gs
end Go.Proofs.YthdgbgleklkaiaaGreatDoor.Ce
namespace Go.Proofs.YthdgbgleklkaiaaGreatDoor
open Go.RowKit
section
variable {P:Program} {Q:Exit→Act→World→Prop} {T:Nat→Prop} {w:World} {l:List Oper} {old:List (Nat×OP)} {sy:List Sy} {pt:List Put} {a:Act} {r:List Oper} {i:Nat} {o:Oper}
theorem Wx {u:World} {g:Nat} {cs:Array Value} {t:TypeId} {fr:Nat×Nat} (hb:u.heap[g]? = some (.cells cs t fr)) (off:Nat) (ds:List Value) (h:∀ j v,ds[j]? = some v→cs[off+j]? = some v):u.rangeAt g off ds:=fun j v hj=>by
 rw [aF hb]
 exact h j v hj
theorem SyLa (hW:uK l sy=true) (hr:dZ P Q l T w old sy pt a r (i+1)) {ty:TypeId} {x:Operand} {ds:Array Value} {d:TypeDesc} (κ off:Nat) (cs:Array Value) (t:TypeId) (hds:∀ j v,ds.toList[j]? = some v→cs[off+j]? = some v) (hu:P.underlying ty=some d) (hd:d.isRow=true) (hi:(P.info? ty).map (·.size)=some ds.size)
  (ho:o.op = .load ty x:=by rfl) (hg:o.guard=none:=by rfl) (hs:sy[i]? = some (Yv (.agg ds)):=by rfl) (hq:gQ sy pt i=true:=by kernel_rfl) (hrd:iG l i x=true:=by kernel_rfl) (hl:tN l old sy i κ=true:=by kernel_rfl)
  (hx:∀ f,sev l sy a f x = .pointer (some ⟨adr old f κ,off,none⟩):=by intro f;first|rfl|kernel_rfl) (hc:cont l old sy pt i κ=some (Cj cs t):=by kernel_rfl):dZ P Q l T w old sy pt a (o :: r) i :=
 .cons (fun f b u K hJ hf hcl hup jf hK=>by
  obtain ⟨⟨ob,Ka,hpo⟩, -⟩:=hJ.mem.mem κ _ _ (qC hJ hcl hf hup hc hl)
  have hpo:ob = .cells cs t (0,0):=hpo
  subst hpo
  rw [if_pos (fP hg)]
  refine wp_load_mid ty x ho _ off ((jr hJ hcl hup jf hrd).trans (hx f)) ds.toList d (Wx Ka off _ hds) hu hd (by rw [Array.length_toList];exact hi) ?_
  rw [Array.toArray_toList]
  exact hK _ _ (hJ.upd hW hcl hf hup hs rfl (by rw [kR hf hq];exact hJ.mem) (fun _=>Below.refl _ _) (CL.no rfl))) hr
theorem SyX (hW:uK l sy=true) (hr:dZ P Q l T w old sy pt a r (i+1)) {v:Value} (xs:List Operand) (vs:List Value) (h:∀ (ρ:Operand→Value) (u:World),Kept T w u→xs.map ρ=vs→(execOp ρ o).run P u = .ok (.value v) u)
  (he:easy o.op=true:=by rfl) (hrd:o.op.operands.toList.all (iG l i)=true:=by kernel_rfl) (hv:∀ f,xs.map (sev l sy a f)=vs:=by intro f;first|rfl|kernel_rfl) (hg:o.guard=none:=by rfl) (hs:sy[i]? = some (Yv v):=by rfl) (hq:gQ sy pt i=true:=by kernel_rfl):dZ P Q l T w old sy pt a (o :: r) i :=
 SyV hW hr (fun f u hH _ _ _=>h _ u hH.keep (hv f)) (execOp_congr he) hrd hg hs hq
theorem Ll {u u':World} (h:Kept (fun _=>False) u u'):Below u.heap.size u u':=⟨h.os,h.tape,h.output,h.size,fun i hi=>h.block i hi id⟩
end
end Go.Proofs.YthdgbgleklkaiaaGreatDoor
namespace Go.Proofs.YthdgbgleklkaiaaGreatDoor
open Go.RowKit
theorem qF (y:Int):IntKind.u8.wrap (bits .and .i64 y 255)=y % 256:=by
 have h2:(abE 64 (255:Int)).toNat=255:=by decide
 have e:∀ x:Nat,x &&& 255=x % 256:=fun x=>abN x 8
 show IntKind.u8.wrap (IntKind.i64.wrap ((abE 64 y &&& abE 64 (255:Int)).toNat:Int))=_
 rw [abO,h2,e,BitVec.toNat_ofInt,IntKind.wrap_u8]
 have hb:(((y % ((2 ^ 64:Nat):Int)).toNat % 256:Nat):Int)=y % 256:=by omega
 rw [hb,IntWalk.i64_in _ (by omega)]
 omega
theorem zero8b (w:World):(zeroValue 182).run Tryz.prog w = .ok (.agg (arr .u8 (abD 8 0))) w:=by kernel_rfl
def Cx (x:Int) (j:Nat):List Int:=abD (8 - j) 0 ++ (jE x).drop (8 - j)
theorem Xp (x:Int) (j:Nat):(Cx x j).length=8:=by simp [Cx,iy]
theorem Tp (x:Int) (j:Nat) (hj:j < 8):(Cx x j).set (7 - j) (x / 2 ^ (8 * j) % 256)=Cx x (j+1):=by
 have:j=0∨j=1∨j=2∨j=3∨j=4∨j=5∨j=6∨j=7:=by omega
 rcases this with rfl|rfl|rfl|rfl|rfl|rfl|rfl|rfl <;> rfl
theorem Xq (x:Int):Cx x 8=jE x:=by simp [Cx]
theorem down8 (x:Int) (j:Nat) (hj:j < 8):x / 2 ^ (8 * j) / 256=x / 2 ^ (8 * (j+1)):=by
 have:j=0∨j=1∨j=2∨j=3∨j=4∨j=5∨j=6∨j=7:=by omega
 rcases this with rfl|rfl|rfl|rfl|rfl|rfl|rfl|rfl
 all_goals (simp only [Nat.reduceMul,Nat.reduceAdd,Int.reducePow,Nat.mul_zero,Int.pow_zero];omega)
theorem ZU {w:World} {g:Nat} {k:IntKind} {xs:List Int} {t:TypeId} (h:w.heap[g]? = some (.cells (arr k xs) t (0,0))) (i:Nat) (hi:i < xs.length):w.cell? ⟨g,i,none⟩=some (.int k (xs.getD i 0)):=(aF h i).trans (uq _ _ _ hi)
theorem Gh {w:World} {g:Nat} {k:IntKind} {xs:List Int} {t:TypeId} (h:w.heap[g]? = some (.cells (arr k xs) t (0,0))) (i:Nat) (x:Int):(w.setCell ⟨g,i,none⟩ (.int k x)).heap[g]? = some (.cells (arr k (xs.set i x)) t (0,0)):=by
 rw [aQ h]
 congr 2
 simp [arr,List.map_set]
theorem sW (sa si:Option Addr) (nb cb n ci:Nat) (bs ns:List Int) (w:World) (hs:Src w sa nb bs) (hi:Br w si n ns) (hnb:nb≤1099511627776) (hn:n≤1048576) (hwf:∀ x∈ns, -9223372036854775808≤x∧x≤9223372036854775807) :
  Calls Tryz.prog 92 #[.slice sa nb cb, .slice si n ci] w fun e w'=>∃ v,e = .returned v∧aU w' w.heap.size v (iH bs ns)∧Below w.heap.size w w':=by
 have hlb:=hs.len
 have hln:=hi.len
 have yM:=abC hs
 have HI:=abC hi
 have HLB:=abC hlb
 have JZ:=abC hln
 have HWF:=abC hwf
 have HN0:=abC (aU.nil w w.heap.size)
 clear hs hi hlb hln hwf
 go_enter Tryz.func92, Tryz.ntmps92
 go_wp2_with ((with_reducible refine aS 11 ?_);refine aX rfl (.const (.slice none 0 0)) (.tmp 10) rfl w.heap.size (.slice none 0 0) [] rfl HN0.out sa nb cb bs rfl yM.out (by simp;omega) (abF _) ?_;intro v1 w1 ho1 hg1 hn1 hb1;have UR:=abC ho1;have HB1:=abC (aZ HN0.out hg1 (Below.refl _ w) (abF _));clear ho1 hg1 hn1 hb1)
 go_loopw [5,6] (fun v i wr=>∃ j:Nat,j≤n∧i = .int .i64 j∧aU wr w.heap.size v (iH bs (ns.take j))∧Below w.heap.size w wr) (fun _ i _=>n - (intOf i).toNat)
 case atStart=>exact ⟨0,Nat.zero_le _,rfl,by simpa [iH] using UR.out,HB1.out⟩
 case round =>
  obtain ⟨j,hj,rfl,hO,hB⟩:=hrel
  by_cases hlt:j < n
  ·obtain ⟨a,rfl,hc⟩:=HI.out.cell j hlt
   have x0:=eD hB hc
   have Oe:=abC (KW bs ns j (by rw [JZ.out];exact hlt))
   have hwx:=HWF.out (ns.getD j 0) (by
    have:j < ns.length:=by rw [JZ.out];exact hlt
    simp only [List.getD,List.getElem?_eq_getElem this,Option.getD_some]
    exact List.getElem_mem this)
   have hTl:=gG bs (ns.take j)
   rw [HLB.out,abQ,JZ.out,Nat.min_eq_left hj] at hTl
   obtain ⟨va,vc,hv, -⟩:=hO.form
   obtain ⟨T,hT⟩:∃ T,T=iH bs (ns.take j):=⟨_,rfl⟩
   rw [← hT] at hO hTl Oe hv
   rw [hTl] at hv
   subst hv
   have uD:=abC hTl
   have HO:=abC hO
   have HB:=abC hB
   clear hT hTl hO hB hc
   generalize ns.getD j 0=x at x0 Oe hwx
   obtain ⟨wo,rfl⟩:∃ wo:World,wo=wr:=⟨_,rfl⟩
   have hb0:(wo.alloc (.cells (arr .u8 (abD 8 0)) 182)).heap[wo.heap.size]? = some (.cells (arr .u8 (Cx x 0)) 182 (0,0)):=by
    rw [show Cx x 0=abD 8 0 from rfl]
    exact aH _ _
   have HB0:=abC hb0
   have HBA:=abC ((Below.refl wo.heap.size wo).alloc (abF _) (.cells (arr .u8 (abD 8 0)) 182))
   have HX0:=abC (show x=x / 2 ^ (8 * 0) by simp)
   clear hb0
   go_wp2_with ((with_reducible refine aS 8 ?_);refine ah rfl 182 rfl _ (zero8b _) ?_)
   go_loopw [7,9] (fun u i wr=>∃ j5:Nat,j5≤8∧i = .int .i64 (7 - (j5:Int))∧u = .int .i64 (x / 2 ^ (8 * j5))∧wr.heap[wo.heap.size]? = some (.cells (arr .u8 (Cx x j5)) 182 (0,0))∧Below wo.heap.size wo wr) (fun _ i _=>(1+intOf i).toNat)
   case atStart=>exact ⟨0,Nat.zero_le _,rfl,by rw [← HX0.out],HB0.out,HBA.out⟩
   case round =>
    obtain ⟨j5,hj5,rfl,rfl,hb,hB5⟩:=hrel
    by_cases hlt5:j5 < 8
    ·have y0:=ZU hb (7 - j5) (by rw [Xp _ _];omega)
     have y1:=aC hb (7 - j5)
     have h2:∀ u,u=x / 2 ^ (8 * j5) % 256→(wr.setCell ⟨wo.heap.size,7 - j5,none⟩ (.int .u8 u)).heap[wo.heap.size]? = some (.cells (arr .u8 (Cx x (j5+1))) 182 (0,0)):=by
      rintro u rfl
      rw [Gh hb,Tp x j5 hlt5]
     have H2:=abC h2
     have gy:=abC (fun u=>hB5.setCell (p:=⟨wo.heap.size,7 - j5,none⟩) (abF _) (.int .u8 u))
     have HD:=abC (down8 x j5 hlt5)
     have e1:(7 - (j5:Int)).toNat=7 - j5:=by omega
     have e2:0≤7 - (j5:Int):=by omega
     have e3:7 - (j5:Int) < 8:=by omega
     clear hb hB5 h2
     generalize hy:x / 2 ^ (8 * j5)=y at H2 HD ⊢
     go_wp2_with fail
     clear e1 e2 e3
     go_roundw
     case rel=>exact ⟨j5+1,by omega,by go_num,by rw [← HD.out],H2.out _ (qF _),gy.out _⟩
     case measure=>simp [intOf];omega
    ·obtain rfl:j5=8:=by omega
     rw [Xq] at hb
     have hsr:Src wr (some ⟨wo.heap.size,0,none⟩) 8 (jE x):=nK hb (by rw [Nat.mul_one,bN,abJ (by simp)]) (iy x)
     have Gm:=abC hsr
     have HO9:=abC (HO.out.below hB5)
     have oN:=abC (HB.out.trans (hB5.mono HB.out.size))
     clear hb hB5 hsr
     go_wp2_with ((with_reducible refine aS 35 ?_);refine aX rfl (.tmp 33) (.tmp 34) rfl w.heap.size (.slice va (nb+8 * j) vc) T rfl HO9.out (some ⟨wo.heap.size,0,none⟩) 8 8 (jE x) rfl Gm.out (by rw [uD.out];omega) oN.out.size ?_;intro v6 w6 xM yH hn6 hb6;have Gr:=abC xM;have Cn:=abC yH;clear xM yH hn6 hb6)
     go_roundw
     case rel=>exact ⟨j+1,by omega,by go_num,by rw [Oe.out];exact Gr.out,aZ HO9.out Cn.out oN.out oN.out.size⟩
     case measure=>simp [intOf];omega
  ·have ej:ns.take j=ns:=abJ (by rw [JZ.out];omega)
   rw [ej] at hO
   have HO:=abC hO
   have HB:=abC hB
   clear hO hB ej
   go_wp2_with fail
   (try simp only [Exit.inBlock,Exit.then])
   go_ret
   exact ⟨_,rfl,HO.out,HB.out⟩
theorem gq (x:Int) (w:World) (hx : -9223372036854775808≤x∧x≤9223372036854775807) :
  Calls Tryz.prog 54 #[.int .i64 x] w fun e w'=>∃ v,e = .returned v∧aU w' w.heap.size v (jE x)∧Below w.heap.size w w':=by
 have h:=sW none (some ⟨w.heap.size,0,none⟩) 0 0 1 1 [] [x] (w.alloc (.cells #[.int .i64 x] 3)) ⟨rfl,fun i hi=>absurd hi (by omega)⟩ (Iy w x) (by omega) (by omega) (by intro y hy;simp at hy;subst hy;exact hx)
 rw [show iH [] [x]=jE x by simp [iH]] at h
 have H:=abC h
 have HB:=abC ((Below.refl _ w).alloc (abF _) (.cells #[.int .i64 x] 3))
 clear h hx
 go_enter Tryz.func54, Tryz.ntmps54
 go_wp2_with (go_at_call 92; refine H.out.mono ?_;rintro e w1 ⟨v1,rfl,ho1,hb1⟩;have UR:=abC (ho1.mono (B':=w.heap.size) (by simp));have HB1:=abC (HB.out.trans (hb1.mono HB.out.size));clear ho1 hb1)
 go_ret
 exact ⟨_,rfl,UR.out,HB1.out⟩
end Go.Proofs.YthdgbgleklkaiaaGreatDoor
namespace Go.Proofs.YthdgbgleklkaiaaGreatDoor.Ae
open Go.RowKit Lm Po Ch
structure aaB (B:Nat) (w wr:World) (v:Value) (xs:List Int):Prop where
 own:aU wr B v xs
 below:Below B w wr
theorem aaB.app {B:Nat} {w wr w':World} {v v':Value} {xs ys:List Int} (h:aaB B w wr v xs) (hB:B≤wr.heap.size) (o:Obj) (h1:aU w' B v' (xs ++ ys)) (hg:(wr.alloc o).grownBy w' v.ownBlock):aaB B w w' v' (xs ++ ys) :=
 ⟨h1,aZ (h.own.alloc o) hg (h.below.alloc hB o) (abI hB (by simp))⟩
theorem zI (k:Nat):abD (k+1) (0:Int)=abD k 0 ++ [0]:=List.replicate_succ'
theorem AZ (B:Nat) (v:Value) (xs:List Int) (w:World) (ho:aU w B v xs) (hB:B≤w.heap.size) (hn:xs.length≤2199023255552) :
  Calls Tryz.prog 181 #[v] w fun e w'=>∃ v',e = .returned v'∧aU w' B v' (xs ++ abD (zr xs.length) 0)∧Below B w w':=by
 obtain ⟨s0,c0,hv0, -⟩:=ho.form
 subst hv0
 obtain ⟨n,hnl⟩:∃ n,n=xs.length:=⟨_,rfl⟩
 rw [← hnl] at hn ⊢
 obtain ⟨Z,hZ⟩:∃ Z,Z=zr n:=⟨_,rfl⟩
 rw [← hZ]
 have hz16:Z < 16:=by rw [hZ];exact abK _ (by decide)
 have hmod0:∀ k,k < Z→(n+k) % 16≠0:=by rw [hZ];unfold zr;omega
 have hmod1:(n+Z) % 16=0:=by rw [hZ];unfold zr;omega
 have HO:=abC ho
 have uL:=abC hnl
 have HM0:=abC hmod0
 have Em:=abC hmod1
 clear ho hZ hmod0 hmod1
 clear hnl
 go_enter Tryz.func181, Tryz.ntmps181
 go_wp2_with fail
 go_loopg [0] Z (fun g m wr=>∃ (k l:Nat) (sv:Option Addr) (cv:Nat),g+k=Z∧l=n+k∧m = .slice sv l cv∧aaB B w wr (.slice sv l cv) (xs ++ abD k 0))
 case atStart=>exact ⟨0,n,s0,c0,by omega,rfl,rfl,⟨by rw [List.replicate_zero,List.append_nil,uL.out];exact HO.out,Below.refl _ w⟩⟩
 case round =>
  obtain ⟨k,l,sv,cv,hk,hl,rfl,hp⟩:=hrel
  obtain ⟨wo,rfl⟩:∃ wo:World,wo=wr:=⟨_,rfl⟩
  have hl1:l≤140737488355000:=by omega
  have HL:=abC hl
  have hBw:B≤wo.heap.size:=abI hB hp.below.size
  by_cases hlt:k < Z
  ·have t1:(((l:Int) % 16) != 0)=true:=by have:=HM0.out k hlt;simp;omega
   have HP:=abC hp
   clear hp hl
   go_wp2_with ((with_reducible refine aS 9 ?_);refine aX rfl _ _ rfl B (.slice sv l cv) (xs ++ abD k 0) rfl (HP.out.own.alloc _) (some ⟨wo.heap.size,0,none⟩) 1 _ [0] rfl (kL _ _) ?_ (abI hBw (by simp)) ?_;(rw [abH,← uL.out,abR];omega);intro v5 w5 hown5 gJ mV vg;have qB:=HP.out.app hBw _ hown5 gJ;clear hown5 gJ mV vg;rw [List.append_assoc,← zI] at qB;obtain ⟨s5,c5,hv5, -⟩:=qB.own.form;rw [abH,← uL.out,abR,show n+(k+1)=l+1 by have:=HL.out;omega] at hv5;subst hv5;have UN:=abC qB;clear qB)
   go_roundg (gk - 1)
   case measure=>omega
   case rel=>exact ⟨k+1,l+1,s5,c5,by omega,by have:=HL.out;omega,rfl,UN.out⟩
  ·have ek:k=Z:=by omega
   have t1:(((l:Int) % 16) != 0)=false:=by have:=Em.out;simp;omega
   rw [ek] at hp
   have HP:=abC hp
   clear hp hl ek
   go_wp2_with fail
   go_ret
   exact ⟨_,rfl,HP.out.own,HP.out.below⟩
theorem Ab (n:Nat) (hn:n≤2199023255552) (w:World) :
  Calls Tryz.prog 182 #[.int .i64 (n:Int)] w fun e w'=>∃ v,e = .returned v∧aU w' w.heap.size v (FP n)∧Below w.heap.size w w':=by
 obtain ⟨tk,htk⟩:∃ tk:Nat→List Int,tk=fun i=>(FP n).take i:=⟨_,rfl⟩
 have ht0:tk 0=[]:=by rw [htk];rfl
 have htl:∀ i,i≤8→(tk i).length=i:=by intro i hi;rw [htk];show ((FP n).take i).length=i;rw [abQ,nT];omega
 have hts:∀ i,i < 8→tk i ++ [((n / 256 ^ i % 256:Nat):Int)]=tk (i+1):=by
  intro i hi
  rw [htk]
  show (FP n).take i ++ _=(FP n).take (i+1)
  rw [gD _ i 0 (by rw [nT];exact hi),FP,bH,dn _ _ _ _ hi]
 have hte:tk 8=FP n:=by rw [htk];exact abJ (by rw [nT];exact abF _)
 have hby:∀ i,bits .and .i64 ((n:Int) / 2 ^ (8 * i)) 255 % 256=((n / 256 ^ i % 256:Nat):Int):=by
  intro i
  have e1:(n:Int) / 2 ^ (8 * i)=((n / 256 ^ i:Nat):Int):=by
   rw [show (256:Nat) ^ i=2 ^ (8 * i) by rw [Nat.pow_mul],Int.natCast_ediv,Int.natCast_pow]
   rfl
  have hlt:n / 256 ^ i < 9223372036854775808:=Nat.lt_of_le_of_lt (Nat.div_le_self _ _) (by omega)
  have e2:n / 256 ^ i &&& 255=n / 256 ^ i % 256:=abN _ 8
  have h1:(abE 64 ((n / 256 ^ i:Nat):Int)).toNat=n / 256 ^ i:=by rw [BitVec.ofInt_natCast,BitVec.toNat_ofNat];exact abG (by omega)
  have h2:(abE 64 (255:Int)).toNat=255:=by decide
  have e3:bits .and .i64 ((n / 256 ^ i:Nat):Int) 255=((n / 256 ^ i % 256:Nat):Int):=by
   show IntKind.i64.wrap ((abE 64 ((n / 256 ^ i:Nat):Int) &&& abE 64 (255:Int)).toNat:Int)=_
   rw [abO,h1,h2,e2,IntKind.wrap_i64]
   omega
  rw [e1,e3]
  omega
 have T0:=abC ht0
 have TL:=abC htl
 have TS:=abC hts
 have TE:=abC hte
 have BY:=abC hby
 clear htk ht0 htl hts hte hby
 go_enter Tryz.func182, Tryz.ntmps182
 go_wp2_with fail
 go_loopg [3,4] 8 (fun g m iv wr=>∃ (i:Nat) (sv:Option Addr) (cv:Nat),g+i=8∧iv = .int .i64 i∧m = .slice sv i cv∧aaB w.heap.size w wr (.slice sv i cv) (tk i))
 case atStart=>exact ⟨0,none,0,rfl,rfl,rfl,⟨by rw [T0.out];exact aU.nil _ _,Below.refl _ w⟩⟩
 case round =>
  obtain ⟨i,sv,cv,hi,rfl,rfl,hp⟩:=hrel
  obtain ⟨wo,rfl⟩:∃ wo:World,wo=wr:=⟨_,rfl⟩
  have hBw:w.heap.size≤wo.heap.size:=hp.below.size
  have HP:=abC hp
  clear hp
  by_cases hlt:i < 8
  ·have e2:(8 * (i:Int)).toNat=8 * i:=by omega
   have e3:0≤8 * (i:Int):=by omega
   have e4:8 * (i:Int) < 64:=by omega
   go_wp2_with ((with_reducible refine aS 18 ?_);rw [BY.out];refine aX rfl _ _ rfl w.heap.size (.slice sv i cv) (tk i) rfl (HP.out.own.alloc _) (some ⟨wo.heap.size,0,none⟩) 1 _ [((n / 256 ^ i % 256:Nat):Int)] rfl (kL _ _) ?_ (abI hBw (by simp)) ?_;(rw [TL.out i (by omega)];omega);intro v5 w5 hown5 gJ mV vg;have qB:=HP.out.app hBw _ hown5 gJ;clear hown5 gJ mV vg;rw [TS.out i hlt] at qB;obtain ⟨s5,c5,hv5, -⟩:=qB.own.form;rw [TL.out (i+1) (by omega)] at hv5;subst hv5;have UN:=abC qB;clear qB)
   go_roundg (gk - 1)
   case measure=>omega
   case rel=>exact ⟨i+1,s5,c5,by omega,by go_num,rfl,UN.out⟩
  ·have ei:i=8:=by omega
   have hp2:aU wo w.heap.size (.slice sv i cv) (FP n):=by
    have:=HP.out.own
    rw [show tk i=FP n by rw [ei];exact TE.out] at this
    exact this
   have Ej:=abC hp2
   clear ei hp2
   go_wp2_with fail
   go_ret
   exact ⟨_,rfl,Ej.out,HP.out.below⟩
end Go.Proofs.YthdgbgleklkaiaaGreatDoor.Ae
namespace Go.Proofs.YthdgbgleklkaiaaGreatDoor.Ed
open Go.RowKit Lm Fp Cu Pri
theorem QD (a e:Nat):∀ n,iI a e n=pw P0 a e n
 | 0=>rfl
 | n+1=>by
  unfold iI pw
  rw [QD a e n]
  rfl
theorem toK_fpow (a e:Nat) (he:e < 2 ^ 256):toK (iI a e 256)=toK (a ^ e):=by
 rw [QD,to_eq,yw P0 a e he]
theorem toK_finv (a:Nat):toK (finv a)=inv (toK a):=by
 unfold finv inv
 rw [toK_fpow _ _ (by decide +kernel),to_eq,je,SE,← abL]
theorem toK_lt {x y:Nat} (hx:x < Fp.p) (hy:y < Fp.p) (h:toK x=toK y):x=y:=by
 rw [to_eq,← SE,abG hx,abG hy] at h
 exact h
theorem toK_is {x:Nat} (hx:x < Fp.p) {a:K} (h:toK x=a):x=a.val:=by
 rw [← h,je,← SE,abG hx]
theorem Qh (a z:K) (hz:z≠0):a * z * inv z=a:=by
 have:=dK z hz
 grind
theorem Is.bytes {P:Pt} {A:K×K} (h:Is P A):lF P=A.2.val+2 ^ 255 * (A.1.val % 2):=by
 have e1:aA P.y (finv P.z)=A.2.val:=toK_is (dH _ _) (by rw [gN,toK_finv,h.ext.ey];exact Qh _ _ h.ext.ez)
 have e2:aA P.x (finv P.z)=A.1.val:=toK_is (dH _ _) (by rw [gN,toK_finv,h.ext.ex];exact Qh _ _ h.ext.ez)
 unfold lF
 rw [e1,e2]
theorem pm_one {t:K} (h:t * t=1):t=1∨t = -1:=by
 have h1:(t - 1) * (t+1)=0:=by grind
 rcases int h1 with h2|h2
 ·left;grind
 ·right;grind
theorem pm {r x:K} (h:r * r=x * x):r=x∨r = -x:=by
 have h1:(r - x) * (r+x)=0:=by grind
 rcases int h1 with h2|h2
 ·left;grind
 ·right;grind
theorem im_k:toK im * toK im = -1:=by decide +kernel
theorem root_k {s:Nat} (hs:s < Fp.p) {X:K} (h:toK s=X * X):(jG s).2=true∧toK (jG s).1 * toK (jG s).1=X * X∧(jG s).1 % 2=0∧(jG s).1 < Fp.p:=by
 have hT:∃ T:K,toK (iI s eighth 256) * toK (iI s eighth 256)=toK s * T∧(X≠0→T * T=1):=by
  refine ⟨toK (s ^ (2 * eighth - 1)),?_,fun hX=>?_⟩
  ·rw [toK_fpow _ _ (by decide +kernel),← lY,← lY,← abM,← Nat.pow_succ',show (2 * eighth - 1).succ=eighth+eighth by decide +kernel]
  ·have hX':X.val % P0≠0:=fun e=>hX (by rw [← jd X];exact nH.2 e)
   rw [← lY,← abM]
   show _=toK 1
   rw [to_eq,show 1 % P0=1 by decide +kernel]
   refine Eq.trans ?_ (vo _ hX')
   have e1:s % P0=(X.val * X.val) % P0:=by rw [← to_eq,h,lY,jd]
   rw [abL,e1,← abL,Nat.mul_pow,← abM]
   congr 2
 obtain ⟨T,hT1,Tw⟩:=hT
 have hy:∃ y,y < Fp.p∧aA y y=s∧jG s=(if y % 2=1 then bf 0 y else y,true):=by
  by_cases h1:aA (iI s eighth 256) (iI s eighth 256)=s
  ·exact ⟨iI s eighth 256,QE _ _ _,h1,by unfold jG;simp only [if_pos h1]⟩
  ·have h2:T≠1:=fun e=>h1 (toK_lt (dH _ _) hs (by rw [gN,hT1,e];grind))
   have h0:X≠0:=fun e=>h1 (toK_lt (dH _ _) hs (by rw [gN,hT1,h,e];grind))
   have h3:=(pm_one (Tw h0)).resolve_left h2
   have h4:aA (aA (iI s eighth 256) im) (aA (iI s eighth 256) im)=s:=toK_lt (dH _ _) hs (by
    rw [gN,gN]
    have:=im_k
    rw [h3] at hT1
    grind)
   exact ⟨aA (iI s eighth 256) im,dH _ _,h4,by unfold jG;simp only [if_neg h1,if_pos h4]⟩
 obtain ⟨y,y1,y2,y3⟩:=hy
 have y4:toK y * toK y=X * X:=by rw [← gN,y2,h]
 have hp2:Fp.p % 2=1:=by decide +kernel
 rw [y3]
 refine ⟨rfl,?_⟩
 show toK (if y % 2=1 then bf 0 y else y) * toK (if y % 2=1 then bf 0 y else y)=_∧(if y % 2=1 then bf 0 y else y) % 2=0∧(if y % 2=1 then bf 0 y else y) < Fp.p
 split
 ·rename_i ho
  have e1:bf 0 y=Fp.p - y:=by
   rw [bf,Nat.zero_add,abG (by omega)]
  refine ⟨?_,by rw [e1];omega,QC _ _⟩
  rw [kJ 0 y1]
  have:toK 0=0:=rfl
  rw [this]
  grind
 ·exact ⟨y4,by omega,y1⟩
theorem o4 {n:Nat} [NeZero n] (d:Fin n):d * (0 * 0)+1=1:=by grind
theorem den (A:K×K):toK D0 * (A.2 * A.2)+1≠0:=by
 intro h
 obtain ⟨i,hi⟩:=mX.im
 have h1:i * i=toK D0 * (A.2 * A.2):=by rw [hi];grind
 have h2:=non h1
 rw [h2] at h
 have h3:toK D0 * ((0:K) * 0)+1=1:=o4 _
 exact mX.one (h3.symm.trans h)
theorem num {A:K×K} (hA:on A):(A.2 * A.2 - 1) * inv (toK D0 * (A.2 * A.2)+1)=A.1 * A.1:=by
 have h1:=dK _ (den A)
 have h2:A.2 * A.2 - 1=A.1 * A.1 * (toK D0 * (A.2 * A.2)+1):=by
  have h3:A.2 * A.2=A.1 * A.1+1+toK D0 * (A.1 * A.1) * (A.2 * A.2):=hA
  grind
 rw [h2]
 grind
theorem Sw {A:K×K} (hA:on A):∃ Q,iX (A.2.val+2 ^ 255 * (A.1.val % 2))=some Q∧Is Q A:=by
 have hp:=p_eq
 have hy:A.2.val < Fp.p:=A.2.isLt
 have hx:A.1.val < Fp.p:=A.1.isLt
 have hb:A.1.val % 2 < 2:=abK _ (by decide)
 have e1:(A.2.val+2 ^ 255 * (A.1.val % 2)) % 2 ^ 255=A.2.val:=by omega
 have e2:(A.2.val+2 ^ 255 * (A.1.val % 2)) / 2 ^ 255=A.1.val % 2:=by omega
 have hp2:Fp.p % 2=1:=by decide +kernel
 obtain ⟨r1,r2,r3,r4⟩:=root_k (s:=aA (bf (aA A.2.val A.2.val) 1) (finv (aL (aA dd (aA A.2.val A.2.val)) 1))) (dH _ _) (X:=A.1) (by
  rw [gN,toK_finv,kJ _ zS,EH,gN,gN,gN,jd,d_is]
  exact num hA)
 unfold iX
 simp only [e1,e2]
 rw [if_pos hy]
 generalize jG (aA (bf (aA A.2.val A.2.val) 1) (finv (aL (aA dd (aA A.2.val A.2.val)) 1)))=R at *
 have hx0:A.1.val % 2=1→R.1≠0:=fun ho h0=>by
  rw [h0] at r2
  have h1:A.1 * A.1=0:=by rw [← r2];rfl
  have h2:A.1=0:=(int h1).elim id id
  rw [h2] at ho
  exact absurd ho (by decide +kernel)
 rw [if_pos ⟨r1,hx0⟩]
 refine ⟨_,rfl,?_⟩
 have key:toK (if A.1.val % 2=1 then bf 0 R.1 else R.1)=A.1:=by
  have v1:toK A.1.val=A.1:=jd _
  split
  ·rename_i ho
   rw [kJ 0 r4]
   rcases pm r2 with h|h
   ·have:=toK_is r4 h
    omega
   ·rw [h]
    show toK 0 - -A.1=A.1
    have:toK 0=0:=rfl
    rw [this]
    grind
  ·rename_i ho
   rcases pm r2 with h|h
   ·exact h
   ·have h1:toK (R.1+A.1.val)=0:=by rw [KA,h,v1];grind
    rw [nH] at h1
    have h2:R.1=0∧A.1.val=0:=by
     have h1':(R.1+A.1.val) % Fp.p=0:=h1
     obtain ⟨c,hc⟩:=Nat.dvd_of_mod_eq_zero h1'
     have:c < 2:=by
      rcases Nat.lt_or_ge c 2 with h3|h3
      ·exact h3
      ·have:=Nat.mul_le_mul_left Fp.p h3
       omega
     rcases (show c=0∨c=1 by omega) with rfl|rfl <;> omega
    rw [h2.1]
    rw [h2.2] at v1
    exact v1
 have hlt:(if A.1.val % 2=1 then bf 0 R.1 else R.1) < Fp.p:=by
  split
  ·exact QC _ _
  ·exact r4
 have t1:toK 1=1:=rfl
 exact ⟨⟨hlt,hy,zS,dH _ _⟩,⟨by show toK 1≠0;exact mX.one,by show toK _=A.1 * toK 1;rw [key,t1];grind,by show toK _=A.2 * toK 1;rw [jd,t1];grind,by show toK (aA _ _)=A.1 * A.2 * toK 1;rw [gN,key,jd,t1];grind⟩⟩
end Go.Proofs.YthdgbgleklkaiaaGreatDoor.Ed
namespace Go.Proofs.YthdgbgleklkaiaaGreatDoor.Ed
open Go.RowKit Lm Fp Cu Pri Sc
theorem ZN (k:Nat):clamp k < 2 ^ 256:=by
 have:=abK (k / 8 * 8) (show 2 ^ 254 > 0 by decide)
 unfold clamp
 omega
theorem base_is (k:Nat) (hk:k < 2 ^ 256):Is (kC base k 256) (tm B0 k):=Is.base.IV kN k hk
theorem on_b (k:Nat):on (tm B0 k):=iV mX dK kN k
theorem read_b (k:Nat) (hk:k < 2 ^ 256):∃ Q,iX (lF (kC base k 256))=some Q∧Is Q (tm B0 k):=by
 rw [(base_is k hk).bytes]
 exact Sw (on_b k)
theorem may_pub (seed:Nat):(iX (xQ seed)).isSome=true:=by
 obtain ⟨Q,h,_⟩:=read_b (jU seed) (ZN _)
 unfold xQ
 rw [h]
 rfl
end Go.Proofs.YthdgbgleklkaiaaGreatDoor.Ed
