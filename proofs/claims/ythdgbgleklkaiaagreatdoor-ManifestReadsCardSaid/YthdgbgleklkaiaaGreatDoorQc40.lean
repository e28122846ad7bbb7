/- The document's May: The document's SignCert: The ladder's numbers on E. Condition: as each theorem says. -/

import Derived.Test.YthdgbgleklkaiaaGreatDoorQc33
open Go.Lib renaming hid→abC
open Nat renaming le_of_dvd→abD,mod_eq_of_lt→abF
set_option linter.unusedSimpArgs false
set_option linter.unusedVariables false
set_option maxRecDepth 100000
set_option maxHeartbeats 16000000
namespace Go.Proofs.YthdgbgleklkaiaaGreatDoor.Rd
open Go.RowKit Lm Fp Cu
theorem tK (v:Nat) (w:World) (hv:v < 2 ^ 256) (Tv:vK w) (hTi:UA w) :
  Calls Tryz.prog 96 #[.agg (arr .u8 (aW (bD 256 32 v)))] w fun e w'=>e = .returned (.bool (iX v).isSome)∧Below w.heap.size w w':=by
 obtain ⟨ns,hns⟩:∃ x,x=aW (bD 256 32 v):=⟨_,rfl⟩
 have hr:=fun w (h1:vK w) (h2:UA w)=>tq v w hv h1 h2
 have uL:Hid (ns.length=32):=abC (by rw [hns,aG,aK])
 rw [← hns] at hr ⊢
 obtain ⟨bb,hbb⟩:∃ b,b=(iX v).isSome:=⟨_,rfl⟩
 rw [← hbb] at hr ⊢
 have hS0:=bO.one w (arr .u8 ns) 25
 have HTD:=abC (bC Tv hS0.below)
 have HTI:=abC (bC hTi hS0.below)
 have bW:=abC hS0
 have HR:=abC hr
 obtain ⟨zp,yE,xS,jF⟩:=zN nD
 clear yE hns hr hbb hS0 Tv hTi
 go_enter Tryz.func96, Tryz.ntmps96
 go_wp2_with (first|((with_reducible refine aS 6 ?_);refine lL rfl rfl (bW.out.get 0 rfl) rfl (aj _ _) Tryz.underlying25 rfl (bU uL.out) ?_)|((with_reducible show Calls _ 109 _ _ _);go_at_call 109; refine (HR.out _ HTD.out HTI.out).mono ?_;rintro e w1 ⟨z1,rfl,h1, -, hb1⟩;have oH:=abC h1;have HB1:=abC (bW.out.kept hb1);clear h1 hb1)|((with_reducible refine aS 3 ?_);refine lA rfl rfl (xS.out _) HB1 ?_;intro g1 w2 HB2)|((with_reducible refine aT 3 ?_);refine lS rfl rfl HB2 1 rfl rfl rfl (av _ _ oH.out jF.out) (lI oH.out) (ak _ _) ?_;intro w3 HB3))
 go_ret
 exact ⟨rfl,HB3.out.below⟩
end Go.Proofs.YthdgbgleklkaiaaGreatDoor.Rd
namespace Go.Proofs.YthdgbgleklkaiaaGreatDoor.Ce
open Go.RowKit Lm Fp Cu Sl Sc
theorem Ct {rs ks:List Int} (root key:Nat) (id:Int) (w:World) (hr:NU rs root) (hk:NU ks key) (hT:TabV w) :
  Calls Tryz.prog 57 #[.agg (arr .u8 rs), .int .i64 id, .agg (arr .u8 ks)] w fun e w'=>e = .returned (ZO root key id)∧Below w.heap.size w w':=by
 have hct:=fun (u:World) (h:xJ id=true)=>Gd id key u hk (by simp only [xJ,Bool.and_eq_true,decide_eq_true_eq] at h;omega)
 have htl:(oF id key).length≤1000000000:=by rw [Uj];decide
 have htb:bytes (oF id key):=JI id key
 obtain ⟨gs,hgs⟩:∃ b,b=kH root (oF id key):=⟨_,rfl⟩
 have hgl:gs.length=64:=by rw [hgs,gZ]
 have hsg:∀ (u:World) (v:Value),TabV u→isB (oF id key) u v→Calls Tryz.prog 67 #[.agg (arr .u8 rs),v] u fun e w'=>e = .returned (.agg (arr .u8 gs))∧Below u.heap.size u w':=by
  intro u v h1 h2
  obtain ⟨s,c,rfl,hc,hs⟩:=h2
  rw [hgs,show arr .u8 rs=arr .u8 (n32 root) by rw [n32,← hr.1]]
  exact Rd.Di root s _ c u hs hc htb htl h1.d h1.x h1.y h1.q h1.k
 have hm:=fun w=>gX id w
 have hcm:∀ u,TabV u→Calls Tryz.prog 96 #[.agg (arr .u8 ks)] u fun e w'=>e = .returned (.bool (iX key).isSome)∧Below u.heap.size u w':=by
  intro u h
  rw [show arr .u8 ks=arr .u8 (aW (bD 256 32 key)) by rw [← hk.1]]
  exact Rd.tK key u (by have:=hk.2;rwa [show (256:Nat) ^ 32=2 ^ 256 by decide] at this) h.d h.i
 unfold ZO
 rw [← hgs,show n32 key=ks from hk.1.symm]
 obtain ⟨B,hB⟩:∃ b,b=oF id key:=⟨_,rfl⟩
 rw [← hB] at hsg hct
 obtain ⟨zc,hzc⟩:∃ c,c=Bj:=⟨_,rfl⟩
 have hzs:Bj.size=97:=jO (by simp) (by simp)
 have hz1:Bj.all (·.oneCell')=true:=vG _ _ _
 have hz:∀ w,(zeroValue 29).run Tryz.prog w = .ok (.agg Bj) w:=fun w=>uM w
 have hz0:∀ w,(Instr.build 29 #[]).run Tryz.prog w = .ok (.agg Bj) w:=fun w=>JL w
 rw [← hzc] at hzs hz1 hz hz0 ⊢
 obtain ⟨sc,hsc⟩:∃ c,c=dz id ks gs:=⟨_,rfl⟩
 have hss:=jO (id:=id) hgl hk.len
 have hs1:=vG id ks gs
 have hbl:=fun w=>ND id ks gs hk.len hgl w
 rw [← hsc] at hss hs1 hbl ⊢
 have HSG:=abC hsg
 have HCTX:=abC hct
 have iR:=abC hr.len
 have lH:=abC hk.len
 have HZS:=abC hzs
 have HZ1:=abC hz1
 have HZ:=abC hz
 have HZ0:=abC hz0
 have HSS:=abC hss
 have HS1c:=abC hs1
 have qM:=abC hbl
 have UG:=abC hT
 have bW:=abC (bO.three w (arr .u8 rs) (arr .u8 ks) zc 25 25 29)
 have HIZ:Hid ((Tryz.prog.info? 29).map (·.size)=some zc.size):=abC (by rw [hzs];exact kQ)
 have HIS:Hid ((Tryz.prog.info? 29).map (·.size)=some sc.size):=abC (by rw [hss];exact kQ)
 clear hsg hct hr hk hzs hz1 hz hz0 hss hs1 hbl hgl hgs hB hzc hsc htl htb hT
 cases hok:xJ id with
 | false =>
  rw [hok] at hm
  have HM:=abC hm
  clear hm hcm
  go_enter Tryz.func57, Tryz.ntmps57
  go_wp2_with (first|((with_reducible refine aS 6 ?_);refine ah rfl 29 rfl _ (HZ.out _) ?_)|((with_reducible show Calls _ 87 _ _ _);go_at_call 87; refine (HM.out _).mono ?_;rintro e w1 ⟨rfl,rfl⟩)|((with_reducible refine aS 12 ?_);refine wpList_build (by rfl) 29 _ rfl #[] rfl _ (HZ0.out _) ?_)|((with_reducible refine aT 6 ?_);refine lS rfl rfl bW 2 rfl rfl rfl rfl HIZ.out HZ1.out ?_;intro w7 fC))
  all_goals (try simp only [Exit.then])
  refine bodyPost_ret (aN rfl _ _ (w.heap.size+1+1) 29 _ (0,0) _ _ rfl (fC.out.get 2 rfl) Tryz.underlying29 rfl HIZ.out rfl) rfl ?_
  exact ⟨by simp,fC.out.below⟩
 | true =>
  rw [hok] at hm
  have HM:=abC hm
  clear hm
  cases hem:(iX key).isSome with
  | false =>
   rw [hem] at hcm
   have HCM:=abC hcm
   clear hcm
   go_enter Tryz.func57, Tryz.ntmps57
   go_wp2_with (first|((with_reducible refine aS 6 ?_);refine ah rfl 29 rfl _ (HZ.out _) ?_)|((with_reducible show Calls _ 87 _ _ _);go_at_call 87; refine (HM.out _).mono ?_;rintro e w1 ⟨rfl,rfl⟩)|((with_reducible refine aS 13 ?_);refine lL rfl rfl (bW.out.get 1 rfl) rfl (aj _ _) Tryz.underlying25 rfl (bU lH.out) ?_)|((with_reducible show Calls _ 96 _ _ _);go_at_call 96; refine lC (HCM.out _ (UG.out.below bW.out.below)) bW ?_;intro w2 iY)|((with_reducible refine aS 17 ?_);refine wpList_build (by rfl) 29 _ rfl #[] rfl _ (HZ0.out _) ?_)|((with_reducible refine aT 6 ?_);refine lS rfl rfl iY 2 rfl rfl rfl rfl HIZ.out HZ1.out ?_;intro w7 fC))
   all_goals (try simp only [Exit.then])
   refine bodyPost_ret (aN rfl _ _ (w.heap.size+1+1) 29 _ (0,0) _ _ rfl (fC.out.get 2 rfl) Tryz.underlying29 rfl HIZ.out rfl) rfl ?_
   exact ⟨by simp,fC.out.below⟩
  | true =>
   rw [hem] at hcm
   have HCM:=abC hcm
   clear hcm
   go_enter Tryz.func57, Tryz.ntmps57
   go_upto_region 6 with (first|((with_reducible refine aS 6 ?_);refine ah rfl 29 rfl _ (HZ.out _) ?_)|((with_reducible show Calls _ 87 _ _ _);go_at_call 87; refine (HM.out _).mono ?_;rintro e w1 ⟨rfl,rfl⟩)|((with_reducible refine aS 13 ?_);refine lL rfl rfl (bW.out.get 1 rfl) rfl (aj _ _) Tryz.underlying25 rfl (bU lH.out) ?_)|((with_reducible show Calls _ 96 _ _ _);go_at_call 96; refine lC (HCM.out _ (UG.out.below bW.out.below)) bW ?_;intro w2 iY))
   (try simp only [World.size_alloc,Act.put,sA,sZ,sS])
   (try clear bW)
   refine gV (T:=fun _=>False) (w:=w) (sy:=[Yv (.int .i64 id),Yr .u8 ks,Yr .u8 rs,Yv (.int .i64 id),Yr .u8 ks,Yw (isB B) isB.below,Yr .u8 gs,Yv (.agg sc),Y0,Yv (.int .i64 0)]) (pt:=[(8,2,Cj sc 29)]) (by kernel_rfl) (by kernel_rfl) (by kernel_rfl) iY.out.holds (fun hW=>?s1) (fun q1 x1 u1 _ hH=>?e1)
   case s1 =>
    refine jH hW ?_
    refine vM hW ?_ 1 0 (arr .u8 ks) 25 KJ lH.out (aj _ _)
    refine vM hW ?_ 0 0 (arr .u8 rs) 25 KJ iR.out (aj _ _)
    refine jH hW ?_
    refine vM hW ?_ 1 0 (arr .u8 ks) 25 KJ lH.out (aj _ _)
    refine SyCw hW ?_ (vs:=[.int .i64 id, .agg (arr .u8 ks)]) (fun u _=>(HCTX.out u hok).mono (by rintro e w' ⟨v,rfl,ho,hb⟩;exact ⟨v,rfl,isB.own ho,hb⟩))
    refine SyCv hW ?_ (xs:=[.tmp 20]) (vs:=[.agg (arr .u8 rs)]) 5 (fun u v k h=>HSG.out u v (UG.out.below (Ll k)) h)
    refine SyB hW ?_ _ _ [(0, .int .i64 id),(1, .agg (arr .u8 ks)),(2, .agg (arr .u8 gs))] (fun u=>qM.out u)
    refine SySa hW ?_ 2 zc 29 kQ HZS.out HSS.out HS1c.out
    refine jH hW ?_
    exact SyN
   case e1 =>
    have HB1:=abC (hH.blk [0,1,2] [(w.heap.size,arr .u8 rs, 25),(w.heap.size+1,arr .u8 ks, 25),(w.heap.size+1+1,sc, 29)] (by decide) (by kernel_rfl))
    simp only [lay,Sy.at,CQ,Yr,Yv,Yp,Yq,Yn,Y0,Yw,Act.put,sA,sZ,sS,Nat.reduceAdd]
    clear hH iY
    (try simp only [Exit.then])
    go_wp2_with fail
    refine bodyPost_ret (aN rfl _ _ (w.heap.size+1+1) 29 _ (0,0) _ _ rfl (HB1.out.get 2 rfl) Tryz.underlying29 rfl HIS.out rfl) rfl ?_
    exact ⟨by simp,HB1.out.below⟩
end Go.Proofs.YthdgbgleklkaiaaGreatDoor.Ce
namespace Go.Proofs.YthdgbgleklkaiaaGreatDoor.Ed
section
variable {n:Nat} [NeZero n]
theorem mon_dbl (c d x y:Fin n) (hE:y * y=x * x+1+d * (x * x) * (y * y)) (hd:(c+1) * d = -c):y * y=(1+c * (1 - y * y)) * (1+x * x):=by grind
theorem mon_sq (d x1 y1 x2 y2:Fin n) (h1:y1 * y1=x1 * x1+1+d * (x1 * x1) * (y1 * y1)) (h2:y2 * y2=x2 * x2+1+d * (x2 * x2) * (y2 * y2)) :
 ((1 - y1 * y2) * (1 - y1 * y2) - x1 * x2 * (x1 * x2) * ((1+d * (y1 * y2)) * (1+d * (y1 * y2)))) * ((y1+y2) * (y1+y2))=((1+y1 * y2) * (1+y1 * y2) - x1 * x2 * (x1 * x2) * ((1 - d * (y1 * y2)) * (1 - d * (y1 * y2)))) * ((y1 - y2) * (y1 - y2)):=by grind
theorem mden (d x y:Fin n) (hE:y * y=x * x+1+d * (x * x) * (y * y)):1 - d * x * x * y * y=2 - y * y+x * x:=by grind
theorem du1 (g p x y s v:Fin n) (hd:y * y=g * (1+x * x)) (hp:p=2 - y * y+x * x) (hv:p * v=1) :
 (s * (1+y)+s * (1 - y)) * (s * (1+y)+s * (1 - y)) * ((s * (1+y) - s * (1 - y)) * (s * (1+y) - s * (1 - y)))=8 * (s * s * s * s) * g * p * (1+(y * y+x * x) * v):=by grind
theorem du2 (c g p x y s v:Fin n) (hg:g=1+c * (1 - y * y)) (hp:p=2 - y * y+x * x) (hv:p * v=1) :
 ((s * (1+y)+s * (1 - y)) * (s * (1+y)+s * (1 - y)) - (s * (1+y) - s * (1 - y)) * (s * (1+y) - s * (1 - y))) * ((s * (1+y)+s * (1 - y)) * (s * (1+y)+s * (1 - y))+c * ((s * (1+y)+s * (1 - y)) * (s * (1+y)+s * (1 - y)) - (s * (1+y) - s * (1 - y)) * (s * (1+y) - s * (1 - y))))=8 * (s * s * s * s) * g * p * (1 - (y * y+x * x) * v):=by grind
theorem ng1 (x y w:Fin n):(-x * y+y * x) * w=0:=by grind
theorem ng2 (d x y:Fin n) (hE:y * y=x * x+1+d * (x * x) * (y * y)):y * y + -x * x=1 - d * -x * x * y * y:=by grind
theorem ng3 (d x y:Fin n) (hE:y * y=x * x+1+d * (x * x) * (y * y)):y * y = -x * -x+1+d * (-x * -x) * (y * y):=by grind
theorem df1 (d x1 y1 x2 y2 w ya:Fin n) (hv:(1 - d * -x1 * x2 * y1 * y2) * w=1) (h:(y1 * y2 + -x1 * x2) * w=ya):ya * (1+d * x1 * x2 * y1 * y2)=y1 * y2 - x1 * x2:=by grind
theorem df2 (d x1 y1 x2 y2 ya:Fin n) (h:ya * (1+d * x1 * x2 * y1 * y2)=y1 * y2 - x1 * x2):ya * (1+d * x2 * x1 * y2 * y1)=y2 * y1 - x2 * x1:=by grind
theorem au1 (s1 s2 y1 y2:Fin n):((s2 * (1+y2) - s2 * (1 - y2)) * (s1 * (1+y1)+s1 * (1 - y1))+(s2 * (1+y2)+s2 * (1 - y2)) * (s1 * (1+y1) - s1 * (1 - y1))) * ((s2 * (1+y2) - s2 * (1 - y2)) * (s1 * (1+y1)+s1 * (1 - y1))+(s2 * (1+y2)+s2 * (1 - y2)) * (s1 * (1+y1) - s1 * (1 - y1)))=8 * (s1 * s2 * (s1 * s2)) * (2 * ((y1+y2) * (y1+y2))):=by grind
theorem au2 (x s1 s2 y1 y2:Fin n):x * (((s2 * (1+y2) - s2 * (1 - y2)) * (s1 * (1+y1)+s1 * (1 - y1)) - (s2 * (1+y2)+s2 * (1 - y2)) * (s1 * (1+y1) - s1 * (1 - y1))) * ((s2 * (1+y2) - s2 * (1 - y2)) * (s1 * (1+y1)+s1 * (1 - y1)) - (s2 * (1+y2)+s2 * (1 - y2)) * (s1 * (1+y1) - s1 * (1 - y1))))=8 * (s1 * s2 * (s1 * s2)) * (2 * (x * ((y1 - y2) * (y1 - y2)))):=by grind
theorem kya (p1 p2 m1 m2 ya Y C E:Fin n) (h1:ya * p1=m1) (h2:p2 * Y=m2):p1 * p2 * ((1 - ya) * (1 - Y) * C - (1+ya) * (1+Y) * E)=(p1 - m1) * (p2 - m2) * C - (p1+m1) * (p2+m2) * E:=by subst h1;subst h2;grind
theorem kyb (d x1 y1 x2 y2:Fin n):(1+d * x1 * x2 * y1 * y2 - (y1 * y2 - x1 * x2)) * (1 - d * x1 * x2 * y1 * y2 - (y1 * y2+x1 * x2))=(1 - y1 * y2) * (1 - y1 * y2) - x1 * x2 * (x1 * x2) * ((1+d * (y1 * y2)) * (1+d * (y1 * y2))):=by grind
theorem kyc (d x1 y1 x2 y2:Fin n):(1+d * x1 * x2 * y1 * y2+(y1 * y2 - x1 * x2)) * (1 - d * x1 * x2 * y1 * y2+(y1 * y2+x1 * x2))=(1+y1 * y2) * (1+y1 * y2) - x1 * x2 * (x1 * x2) * ((1 - d * (y1 * y2)) * (1 - d * (y1 * y2))):=by grind
theorem kyd (N v p Y:Fin n) (hv:p * v=1) (hY:Y=N * v):p * Y=N:=by subst hY;grind
theorem kye (a b:Fin n) (h:a=b):a - b=0:=by subst h;grind
theorem ky1 (d x1 y1 x2 y2 ya Y v:Fin n) (hs:((1 - y1 * y2) * (1 - y1 * y2) - x1 * x2 * (x1 * x2) * ((1+d * (y1 * y2)) * (1+d * (y1 * y2)))) * ((y1+y2) * (y1+y2))=((1+y1 * y2) * (1+y1 * y2) - x1 * x2 * (x1 * x2) * ((1 - d * (y1 * y2)) * (1 - d * (y1 * y2)))) * ((y1 - y2) * (y1 - y2)))
 (hm:ya * (1+d * x1 * x2 * y1 * y2)=y1 * y2 - x1 * x2) (hv:(1 - d * x1 * x2 * y1 * y2) * v=1) (hY:Y=(y1 * y2+x1 * x2) * v) :
 (1+d * x1 * x2 * y1 * y2) * (1 - d * x1 * x2 * y1 * y2) * ((1 - ya) * (1 - Y) * ((y1+y2) * (y1+y2)) - (1+ya) * (1+Y) * ((y1 - y2) * (y1 - y2)))=0:=by
 rw [kya _ _ _ _ ya Y _ _ hm (kyd _ _ _ _ hv hY),kyb,kyc]
 exact kye _ _ hs
theorem ky2 (ya Y x C E:Fin n) (h:(1 - ya) * (1 - Y) * C - (1+ya) * (1+Y) * E=0) (hx:x * (1 - ya)=1+ya):(1 - ya) * ((1 - Y) * C - (1+Y) * (x * E))=0:=by grind
theorem ky3 (Y C E:Fin n) (h:(1 - Y) * C - (1+Y) * E=0):2 * C=(C+E) * (1+Y)∧2 * E=(C+E) * (1 - Y):=by constructor <;> grind
theorem QS (a b c:Fin n):a * b * c=a * (b * c):=by grind
theorem Kl (a:Fin n):0 * a=0:=by grind
theorem zz1 (y1 y2:Fin n) (h1:y1+y2=0) (h2:y1 - y2=0):2 * y1=0:=by grind
theorem zz3 (y:Fin n) (h:0+y=0):y=0:=by grind
theorem zz2 (d x1 x2 ya:Fin n) (h1:(0:Fin n) * 0=x1 * x1+1+d * (x1 * x1) * (0 * 0)) (h2:(0:Fin n) * 0=x2 * x2+1+d * (x2 * x2) * (0 * 0)) (hm:ya * (1+d * x1 * x2 * 0 * 0)=0 * 0 - x1 * x2):(1 - ya) * (1+ya)=0:=by grind
theorem ue5 (h:Fin n) (e:h * 2=1):(1:Fin n)=h * (1+1)∧(0:Fin n)=h * (1 - 1):=by constructor <;> grind
theorem ue6 (x v y:Fin n) (hx:x * (1 - y)=1+y) (hv:(1 - y) * v=1):x=v * (1+y)∧1=v * (1 - y):=by constructor <;> grind
theorem one0 (d x y:Fin n) (hE:y * y=x * x+1+d * (x * x) * (y * y)) (h:1 - y=0):y=1∧x * x * (1+d)=0:=by
 have hy:y=1:=by grind
 subst hy
 exact ⟨rfl,by grind⟩
theorem one1 (d x y:Fin n) (hE:y * y=x * x+1+d * (x * x) * (y * y)) (h:1+y=0):y = -1∧x * x * (1+d)=0:=by
 have hy:y = -1:=by grind
 subst hy
 exact ⟨rfl,by grind⟩
theorem ue7 (t a b v:Fin n):t * a * v * b=a * (t * b * v):=by grind
theorem SX (a:Fin n):a * 1=a:=by grind
theorem mulz_n (a:Fin n):a * 0=0:=by grind
end
end Go.Proofs.YthdgbgleklkaiaaGreatDoor.Ed
namespace Go.Proofs.YthdgbgleklkaiaaGreatDoor.Ed
open Go.RowKit Lm Fp Cu Pri
def C0:K:=toK 121665
theorem c_d:(C0+1) * toK D0 = -C0:=by decide +kernel
theorem c_one:¬ (1+C0 * (1 - 0)=(0:K)):=by decide +kernel
theorem QH:(8:K)≠0:=by decide +kernel
theorem VF:(2:K)≠0:=by decide +kernel
theorem Ta {a b:K} (ha:a≠0) (hb:b≠0):a * b≠0:=jy mX ha hb
def Uo (a b:K) (A:K×K):Prop:=∃ s:K,s≠0∧a=s * (1+A.2)∧b=s * (1 - A.2)
theorem u_dbl {a b:K} {A:K×K} (hA:on A) (h:Uo a b A) :
  Uo ((a+b) * (a+b) * ((a - b) * (a - b))) (((a+b) * (a+b) - (a - b) * (a - b)) * ((a+b) * (a+b)+C0 * ((a+b) * (a+b) - (a - b) * (a - b)))) (add A A):=by
 obtain ⟨s,hs,rfl,rfl⟩:=h
 obtain ⟨_,w2⟩:=whole mX hA hA
 have hv:=dK _ w2
 obtain ⟨x,y⟩:=A
 have hE:y * y=x * x+1+toK D0 * (x * x) * (y * y):=hA
 have hd:=mon_dbl C0 (toK D0) x y hE c_d
 have hp:=mden (toK D0) x y hE
 have hg:1+C0 * (1 - y * y)≠0:=by
  intro h
  rw [h,Km] at hd
  rw [hd] at h
  exact c_one h
 simp only at hv w2
 refine ⟨8 * (s * s * s * s) * (1+C0 * (1 - y * y)) * (1 - toK D0 * x * x * y * y),Ta (Ta (Ta QH (Ta (Ta (Ta hs hs) hs) hs)) hg) w2,?_,?_⟩
 ·exact du1 _ _ x y s _ hd hp hv
 ·exact du2 C0 _ _ x y s _ rfl hp hv
def ng (A:K×K):K×K:=(-A.1,A.2)
theorem WS {A:K×K} (h:on A):on (ng A):=ng3 (toK D0) A.1 A.2 h
theorem WZ {A:K×K} (h:on A):add (ng A) A=(0,1):=by
 obtain ⟨_,w2⟩:=whole mX (WS h) h
 have hv:=dK _ w2
 obtain ⟨x,y⟩:=A
 have hE:y * y=x * x+1+toK D0 * (x * x) * (y * y):=h
 show (_,_)=((0:K),(1:K))
 refine Prod.ext ?_ ?_
 ·exact ng1 x y _
 ·show (y * y + -x * x) * inv (1 - toK D0 * -x * x * y * y)=1
  rw [ng2 (toK D0) x y hE]
  exact hv
theorem diff {A B:K×K} (hA:on A) (hB:on B):B.2 * (1+toK D0 * A.1 * (add A B).1 * A.2 * (add A B).2)=A.2 * (add A B).2 - A.1 * (add A B).1:=by
 have h1:add (ng A) (add A B)=B:=by
  show iB (toK D0) inv (ng A) (iB (toK D0) inv A B)=B
  rw [← add_assoc mX dK (WS hA) hA hB]
  have:iB (toK D0) inv (ng A) A=(0,1):=WZ hA
  rw [this,zero_add mX dK]
 obtain ⟨_,w2⟩:=whole mX (WS hA) (Fx mX dK hA hB)
 have hv:=dK _ w2
 have h2:=congrArg Prod.snd h1
 exact df1 _ _ _ _ _ _ _ hv h2
theorem sq0 {a:K} (h:a * a=0):a=0:=(mX.int _ _ h).elim id id
theorem u_add {a b c d:K} {A B:K×K} {x ya:K} (hA:on A) (hB:on B) (h1:Uo a b A) (h2:Uo c d B) (hx:x * (1 - ya)=1+ya) (hn1:1 - ya≠0) (hn2:1+ya≠0)
  (hm:ya * (1+toK D0 * A.1 * B.1 * A.2 * B.2)=A.2 * B.2 - A.1 * B.1) :
  Uo (((c - d) * (a+b)+(c+d) * (a - b)) * ((c - d) * (a+b)+(c+d) * (a - b))) (x * (((c - d) * (a+b) - (c+d) * (a - b)) * ((c - d) * (a+b) - (c+d) * (a - b)))) (add A B):=by
 obtain ⟨s1,hs1,rfl,rfl⟩:=h1
 obtain ⟨s2,hs2,rfl,rfl⟩:=h2
 obtain ⟨w1,w2⟩:=whole mX hA hB
 have hv:=dK _ w2
 have hs:=mon_sq (toK D0) A.1 A.2 B.1 B.2 hA hB
 have hY:(add A B).2=(A.2 * B.2+A.1 * B.1) * inv (1 - toK D0 * A.1 * B.1 * A.2 * B.2):=rfl
 have k1:=ky1 (toK D0) A.1 A.2 B.1 B.2 ya _ _ hs hm hv hY
 have k2:=(mX.int _ _ k1).resolve_left (Ta w1 w2)
 have k3:=(mX.int _ _ (ky2 ya _ x _ _ k2 hx)).resolve_left hn1
 obtain ⟨k4,k5⟩:=ky3 _ _ _ k3
 refine ⟨8 * (s1 * s2 * (s1 * s2)) * ((A.2+B.2) * (A.2+B.2)+x * ((A.2 - B.2) * (A.2 - B.2))),Ta (Ta QH (Ta (Ta hs1 hs2) (Ta hs1 hs2))) ?_,?_,?_⟩
 ·intro h0
  rw [h0,Kl] at k4 k5
  have c1:=(mX.int _ _ k4).resolve_left VF
  have c2:=(mX.int _ _ k5).resolve_left VF
  have e1:=sq0 c1
  rcases mX.int _ _ c2 with e2|e2
  ·rw [e2,Kl] at hx
   exact hn2 hx.symm
  ·have e3:=sq0 e2
   have e4:=(mX.int _ _ (zz1 _ _ e1 e3)).resolve_left VF
   have e5:B.2=0:=by
    rw [e4] at e1
    exact zz3 _ e1
   have hA':A.2 * A.2=A.1 * A.1+1+toK D0 * (A.1 * A.1) * (A.2 * A.2):=hA
   have hB':B.2 * B.2=B.1 * B.1+1+toK D0 * (B.1 * B.1) * (B.2 * B.2):=hB
   rw [e4] at hA' hm
   rw [e5] at hB' hm
   exact (mX.int _ _ (zz2 _ _ _ _ hA' hB' hm)).elim hn1 hn2
 ·rw [au1,k4,QS (8 * _)]
 ·rw [au2,k5,QS (8 * _)]
def Lad (A:K×K) (m:Nat) (s:La):Prop:=Uo (toK s.a) (toK s.b) (tm A m)∧Uo (toK s.c) (toK s.d) (tm A (m+1))
theorem Xt {A:K×K} {x m β:Nat} {s:La} (hA:on A) (hβ:β < 2) (hl:LtP s) (hx:toK x * (1 - A.2)=1+A.2) (hn1:1 - A.2≠0) (hn2:1+A.2≠0) (h:Lad A m s):Lad A (2 * m+β) ((lU x (s.swap β)).swap β):=by
 obtain ⟨k1,k2,k3,k4⟩:=lstep_k x (s.swap β) (swap_lt hl β)
 obtain ⟨u1,u2⟩:=h
 have o1:=iV mX dK hA m
 have o2:=iV mX dK hA (m+1)
 have df:=diff o1 hA
 have df':=df2 _ _ _ _ _ _ df
 have hβ2:β=0∨β=1:=by omega
 have t1:add (tm A m) (tm A (m+1))=tm A (2 * m+1):=by
  rw [show 2 * m+1=m+(m+1) by omega]
  exact (jg mX dK hA _ _).symm
 rcases hβ2 with rfl|rfl
 ·have e1:s.swap 0=s:=rfl
  have e2:∀ t:La,t.swap 0=t:=fun _=>rfl
  rw [e1] at k1 k2 k3 k4
  rw [e1,e2]
  refine ⟨?_,?_⟩
  ·rw [k1,k2,show 2 * m+0=m+m by omega,show tm A (m+m)=add (tm A m) (tm A m) from jg mX dK hA _ _]
   exact u_dbl o1 u1
  ·rw [k3,k4,show 2 * m+0+1=2 * m+1 from rfl,← t1]
   exact u_add o1 o2 u1 u2 hx hn1 hn2 df
 ·have e1:s.swap 1=⟨s.c,s.d,s.a,s.b⟩:=rfl
  have e2:∀ t:La,t.swap 1=⟨t.c,t.d,t.a,t.b⟩:=fun _=>rfl
  rw [e1] at k1 k2 k3 k4
  rw [e1,e2]
  simp only at k1 k2 k3 k4
  refine ⟨?_,?_⟩
  ·show Uo (toK (lU x ⟨s.c,s.d,s.a,s.b⟩).c) (toK (lU x ⟨s.c,s.d,s.a,s.b⟩).d) _
   rw [k3,k4,← t1,show add (tm A m) (tm A (m+1))=add (tm A (m+1)) (tm A m) from add_comm _ _]
   exact u_add o2 o1 u2 u1 hx hn1 hn2 df'
  ·show Uo (toK (lU x ⟨s.c,s.d,s.a,s.b⟩).a) (toK (lU x ⟨s.c,s.d,s.a,s.b⟩).b) _
   rw [k1,k2,show 2 * m+1+1=(m+1)+(m+1) by omega,show tm A ((m+1)+(m+1))=add (tm A (m+1)) (tm A (m+1)) from jg mX dK hA _ _]
   exact u_dbl o2 u2
theorem Xr {A:K×K} {x:Nat} (hx:toK x * (1 - A.2)=1+A.2) (hn1:1 - A.2≠0):Lad A 0 ⟨1,0,x,1⟩:=by
 have hv:=dK _ hn1
 have hi:inv (1 - A.2)≠0:=by
  intro e
  rw [e] at hv
  exact mX.one (by rw [← hv,mulz_n])
 have ha:tm A 1=A:=zero_add mX dK A
 refine ⟨⟨toK ((P0+1) / 2),by decide +kernel,?_⟩,⟨inv (1 - A.2),hi,?_⟩⟩
 ·exact ue5 (toK ((P0+1) / 2)) (by decide +kernel)
 ·show _∧toK 1=inv (1 - A.2) * (1 - (tm A 1).2)
  rw [show tm A (0+1)=A from ha]
  exact ue6 _ _ _ hx hv
theorem Xu {A:K×K} {x k:Nat} (hA:on A) (hp:x < p) (hk:k < 2 ^ 255) (hx:toK x * (1 - A.2)=1+A.2) (hn1:1 - A.2≠0) (hn2:1+A.2≠0):∀ n,n≤255→Lad A (k / 2 ^ (255 - n)) (FN x k n)
 | 0,_=>by
  rw [Nat.sub_zero,Nat.div_eq_of_lt hk]
  exact Xr hx hn1
 | n+1,hn=>by
  have ih:=Xu hA hp hk hx hn1 hn2 n (by omega)
  have h1:255 - n=(254 - n)+1:=by omega
  have h3:k / 2 ^ (255 - n)=k / 2 ^ (254 - n) / 2:=by rw [h1,Nat.pow_succ,Nat.div_div_eq_div_mul]
  have h:=Xt hA (Nat.mod_lt (k / 2 ^ (254 - n)) (by decide:0 < 2)) (lgo_lt x k hp n) hx hn1 hn2 ih
  rw [h3] at h
  rw [show 255 - (n+1)=254 - n by omega,show k / 2 ^ (254 - n)=2 * (k / 2 ^ (254 - n) / 2)+k / 2 ^ (254 - n) % 2 by omega]
  have e:(2 * (k / 2 ^ (254 - n) / 2)+k / 2 ^ (254 - n) % 2)=k / 2 ^ (254 - n):=by omega
  rw [e] at h ⊢
  exact h
theorem D5 (k:Nat):clamp k < 2 ^ 255:=by
 unfold clamp
 have:k / 8 * 8 % 2 ^ 254 < 2 ^ 254:=Nat.mod_lt _ (by decide)
 omega
theorem x_mul {A:K×K} {u:Nat} (hA:on A) (hu:u < p) (hx:toK u * (1 - A.2)=1+A.2) (hn1:1 - A.2≠0) (hn2:1+A.2≠0) (k:Nat) (hk:1 - (tm A (clamp k)).2≠0) :
  toK (bZ k u) * (1 - (tm A (clamp k)).2)=1+(tm A (clamp k)).2:=by
 have hp:p < 2 ^ 255:=by decide +kernel
 have h:=(Xu hA hu (D5 k) hx hn1 hn2 255 (Nat.le_refl _)).1
 rw [show 255 - 255=0 from rfl,Nat.pow_zero,Nat.div_one] at h
 unfold bZ
 rw [abF (Nat.lt_trans hu hp),abF hu]
 simp only
 generalize FN u (clamp k) 255=s at h ⊢
 generalize tm A (clamp k)=B at h hk ⊢
 obtain ⟨t,ht,ha,hb⟩:=h
 rw [gN,toK_finv,ha,hb]
 have hv:=dK _ (Ta ht hk)
 rw [show t * (1+B.2) * inv (t * (1 - B.2)) * (1 - B.2)=(1+B.2) * (t * (1 - B.2) * inv (t * (1 - B.2))) from ue7 _ _ _ _,hv,SX]
end Go.Proofs.YthdgbgleklkaiaaGreatDoor.Ed
namespace Go.Proofs.YthdgbgleklkaiaaGreatDoor.Ed
open Go.RowKit Lm Fp Cu Pri
theorem q1:Pr 1224481:=trial (k:=1107) (by decide) (by decide) (by decide +kernel)
theorem q2:Pr 531581:=trial (k:=730) (by decide) (by decide) (by decide +kernel)
theorem q3:Pr 1257559732178653:=Test.prime (a:=2) (rs:=[1224481,531581]) ⟨by decide,by decide +kernel,by simpa using ⟨q1,q2⟩,by decide +kernel,by decide +kernel,by decide +kernel⟩ (by decide +kernel)
theorem q4:Pr 4434155615661930479:=Test.prime (a:=2) (rs:=[1257559732178653]) ⟨by decide,by decide +kernel,by simpa using q3,by decide +kernel,by decide +kernel,by decide +kernel⟩ (by decide +kernel)
theorem q5:Pr 172054593956031949258510691:=Test.prime (a:=2) (rs:=[4434155615661930479]) ⟨by decide,by decide +kernel,by simpa using q4,by decide +kernel,by decide +kernel,by decide +kernel⟩ (by decide +kernel)
theorem q6:Pr 19757330305831588566944191468367130476339:=Test.prime (a:=2) (rs:=[172054593956031949258510691]) ⟨by decide,by decide +kernel,by simpa using q5,by decide +kernel,by decide +kernel,by decide +kernel⟩ (by decide +kernel)
theorem q7:Pr 276602624281642239937218680557139826668747:=Test.prime (a:=2) (rs:=[19757330305831588566944191468367130476339]) ⟨by decide,by decide +kernel,by simpa using q6,by decide +kernel,by decide +kernel,by decide +kernel⟩ (by decide +kernel)
theorem prQ:Pr Sc.q:=Test.prime (a:=2) (rs:=[276602624281642239937218680557139826668747]) ⟨by decide +kernel,by decide +kernel,by simpa using q7,by decide +kernel,by decide +kernel,by decide +kernel⟩ (by decide +kernel)
theorem tm_gcd (a b:Nat):tm B0 a=(0,1)→tm B0 b=(0,1)→tm B0 (Nat.gcd a b)=(0,1):=by
 induction a,b using Nat.gcd.induction with
 | H0 n=>intro _ h;rwa [Nat.gcd_zero_left]
 | H1 m n hm ih =>
  intro h1 h2
  rw [Nat.gcd_rec]
  refine ih ?_ h1
  rw [show tm B0 (n % m)=tm B0 n from RN mX dK kN h1 n]
  exact h2
theorem base_ne:B0≠(0,1):=by
 intro h
 exact absurd (congrArg Prod.snd h) (by decide +kernel)
theorem WW {m:Nat} (hm:¬ Sc.q ∣ m):tm B0 m≠(0,1):=by
 intro h
 have h1:=tm_gcd Sc.q m base_q h
 have h2:Nat.gcd Sc.q m=1:=cop prQ hm
 rw [h2] at h1
 have h3:tm B0 1=B0:=zero_add mX dK B0
 exact base_ne (h3.symm.trans h1)
theorem d_one:1+toK D0≠0:=by decide +kernel
theorem neg_k:ng ((0:K), -1)=(0, -1):=by decide +kernel
theorem Ry {m:Nat} (hm:¬ Sc.q ∣ m):1 - (tm B0 m).2≠0∧1+(tm B0 m).2≠0:=by
 have ho:on (tm B0 m):=iV mX dK kN m
 have key:∀ A:K×K,A.1 * A.1 * (1+toK D0)=0→A.1=0:=fun A h=>sq0 ((mX.int _ _ h).resolve_right d_one)
 constructor
 ·intro h
  obtain ⟨h1,h2⟩:=one0 (toK D0) _ _ ho h
  exact WW hm (Prod.ext (key _ h2) h1)
 ·intro h
  obtain ⟨h1,h2⟩:=one1 (toK D0) _ _ ho h
  have e:tm B0 m=(0, -1):=Prod.ext (key _ h2) h1
  have hn:=WZ ho
  rw [e,neg_k,← e] at hn
  have h3:tm B0 (m+m)=(0,1):=(jg mX dK kN m m).trans hn
  refine WW (m:=m+m) ?_ h3
  intro hd
  rw [show m+m=2 * m by omega] at hd
  rcases prQ.dvd_mul hd with h4|h4
  ·exact absurd (abD (by decide) h4) (by decide +kernel)
  ·exact hm h4
theorem uo (k:Nat):¬ Sc.q ∣ clamp k:=by
 intro h
 have h1:clamp k=8 * (clamp k / 8):=by
  have:(2:Nat) ^ 254=8 * 2 ^ 251:=by decide
  have h2:k / 8 * 8 % 2 ^ 254 % 8=0:=by
   rw [Nat.mod_mod_of_dvd _ (show 8 ∣ 2 ^ 254 from ⟨2 ^ 251,this⟩)]
   omega
  have h3:clamp k % 8=0:=by unfold clamp;omega
  omega
 have h0:2 ^ 254≤clamp k:=by unfold clamp;omega
 have h4:=D5 k
 have hq:2 ^ 252 < Sc.q:=by decide +kernel
 rw [h1] at h
 rcases prQ.dvd_mul h with h5|h5
 ·have:=abD (by decide) h5
  omega
 ·have:=abD (by omega) h5
  omega
theorem WA (k l:Nat):¬ Sc.q ∣ clamp k * clamp l:=fun h=>(prQ.dvd_mul h).elim (uo k) (uo l)
theorem one_q:¬ Sc.q ∣ 1:=fun h=>absurd (abD (by decide) h) (by decide +kernel)
theorem nine_b:toK 9 * (1 - B0.2)=1+B0.2:=by decide +kernel
theorem Qf:1 - B0.2≠0∧1+B0.2≠0:=by
 have h:=Ry one_q
 rwa [show tm B0 1=B0 from zero_add mX dK B0] at h
theorem x_pub (k:Nat):toK (bZ k 9) * (1 - (tm B0 (clamp k)).2)=1+(tm B0 (clamp k)).2 :=
 x_mul kN (by decide +kernel) nine_b Qf.1 Qf.2 k (Ry (uo k)).1
theorem x_both (k l:Nat):toK (bZ l (bZ k 9)) * (1 - (tm B0 (clamp k * clamp l)).2)=1+(tm B0 (clamp k * clamp l)).2:=by
 have e:tm B0 (clamp k * clamp l)=tm (tm B0 (clamp k)) (clamp l):=uP mX dK kN _ _
 have h:=(Ry (WA k l)).1
 rw [e] at h ⊢
 exact x_mul (iV mX dK kN _) (uN k 9) (x_pub k) (Ry (uo k)).1 (Ry (uo k)).2 l h
theorem x_ne (k l:Nat):bZ l (bZ k 9)≠0:=by
 intro h
 have h1:=x_both k l
 rw [h,show toK 0=0 from rfl,Kl] at h1
 exact (Ry (WA k l)).2 h1.symm
end Go.Proofs.YthdgbgleklkaiaaGreatDoor.Ed
