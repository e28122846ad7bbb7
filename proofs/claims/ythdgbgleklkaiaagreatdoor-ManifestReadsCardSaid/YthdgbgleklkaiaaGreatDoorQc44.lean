/- The document's (Set).Manifest: portcullislaw17.alive: portcullislaw17. Condition: as each theorem says. -/

import Derived.Test.YthdgbgleklkaiaaGreatDoorQc41
import Derived.Test.YthdgbgleklkaiaaGreatDoorQc42
import Derived.Test.YthdgbgleklkaiaaGreatDoorQc43
open Go.Lib renaming hid→abC
open Nat renaming le_refl→abD
open List renaming length_append→abE,nil_append→abF
set_option linter.unusedSimpArgs false
set_option linter.unusedVariables false
set_option maxRecDepth 100000
set_option maxHeartbeats 16000000
namespace Go.Proofs.YthdgbgleklkaiaaGreatDoor.Ms
open Go.RowKit Lm Fp Cu Sl Sc Ce Mf Wr
structure oh (w:World):Prop extends TabV w where
 a:Ha.eP w
theorem oh.below {u u':World} (h:oh u) (b:Below u.heap.size u u'):oh u':=⟨h.toTabV.below b,Ha.eP.kept h.a (Kept.of_below (T:=fun _=>False) b) (fun h=>h)⟩
def zM (k1:List Int):Nat:=xQ (fD k1)
def qQ (k0 k1:List Int) (id:Int):List Int:=kH (fD k0) (oF id (zM k1))
def wsV (k2 K:List Int):List Int:=Co (bZ (fD k2) 9) (fD (Ha.hash K)) K
def Eb (k0 k1 k2 K R:List Int) (id v b:Int):List Int:=dW v b R (wsV k2 K) id (n32 (zM k1)) (qQ k0 k1 id)
def qH (k0 k1 k2 K R:List Int) (id v b:Int):List Int:=Eb k0 k1 k2 K R id v b ++ kH (fD k1) (Eb k0 k1 k2 K R id v b)
theorem Ah {xs:List Int} (h:bytes xs) (hl:xs.length=32):NU xs (fD xs):=⟨(tH h hl).symm,by have:=yF h;rwa [hl] at this⟩
theorem EC (k2 K:List Int) (h:K.length=32):wsV k2 K=n32 (bZ (fD (Ha.hash K)) 9) ++ sealed (bZ (fD k2) 9) (fD (Ha.hash K)) K∧RH (bZ (fD k2) 9) (fD (Ha.hash K))=0:=by
 have:=Ed.x_ne (fD k2) (fD (Ha.hash K))
 exact ⟨by rw [wsV,Co,if_neg this],by rw [RH,if_neg this]⟩
theorem Pm (k2 K:List Int) (h:K.length=32):(wsV k2 K).length=80:=by
 rw [(EC k2 K h).1,abE,cK,zC _ _ _ h]
theorem Qk {v b i:Int} (hv:0≤v∧v≤2147483647) (hb:1≤b∧b≤32) (hi:0≤i∧i≤2147483647):iA v b 80 i=true:=by
 simp [iA,xJ,hv.1,hv.2,hb.1,hb.2,hi.1,hi.2]
theorem FB {n:Nat} (h:n≤2048):1≤gU n∧gU n≤32:=by unfold gU;split <;> omega
theorem Wt {k0 k1 k2 k3 xs R:List Int} (id v:Int) (sp:Option Addr) (n cp:Nat) (w:World) (h0:k0.length=32) (h1:k1.length=32) (h2:k2.length=32) (h3:k3.length=32)
  (b0:bytes k0) (b1:bytes k1) (b2:bytes k2) (b3:bytes k3) (hs:Src w sp n xs) (kc:n≤cp) (hn:n≤2048) (hi:0≤id∧id≤2147483647) (hv:0≤v∧v≤2147483647) (hT:oh w)
  (hR:R.length=32) (bR:bytes R)
  (hRT:∀ u s c,oh u→om u s (gU n) (Im.o7 (iW k3 v) v xs (gU n))→gU n≤c→Calls Tryz.prog 60 #[.slice s (gU n) c] u fun e w'=>e = .returned (.agg (arr .u8 R))∧Below u.heap.size u w') :
  Calls Tryz.prog 18 #[.agg (kX k0 k1 k2 k3), .int .i64 id, .int .i64 v, .slice sp n cp] w fun e w'=>∃ xv lv,e = .returned (.tuple #[xv,lv, .int .i64 0])∧aU w' w.heap.size xv (qH k0 k1 k2 (iW k3 v) R id v (gU n))∧dV w' w.heap.size lv (Im.o7 (iW k3 v) v xs (gU n))∧Below w.heap.size w w':=by
 have hT':∀ u,Below w.heap.size w u→oh u:=fun u k=>hT.below k
 have hKl:=Ag k3 v
 have hKb:bytes (iW k3 v):=fu _
 have hLl:=Im.uT (iW k3 v) v xs (gU n)
 have hnb:=FB hn
 have hmay:=Qk (b:=(gU n:Int)) hv ⟨by omega,by omega⟩ hi
 have hwl:=Pm k2 _ hKl
 have hgl:(qQ k0 k1 id).length=64:=gZ _ _
 have hgb:bytes (qQ k0 k1 id):=pW _ _
 have hok:xJ id=true:=by simp [xJ,hi.1,hi.2]
 have hmk:=fun u (k:Below w.heap.size w u)=>Im.Sv (iW k3 v) xs v sp n cp u hKl hKb (hs.below k) kc hn hv
 have hwb:bytes (wsV k2 (iW k3 v)):=by
  rw [(EC k2 _ hKl).1]
  exact jk (eY _) (Ae.rH _ _ _ _)
 have hdk:=Ah (fu (iW k3 v)) (Ha.dM _)
 have hx:bZ (fD k2) 9 < 256 ^ 32:=Nat.lt_trans (uN _ _) (by decide +kernel)
 have key:=Sr (k0:=k0) (k1:=k1) (k2:=k2) (k3:=k3) (K:=iW k3 v) (pk:=n32 (zM k1)) (tk:=n32 (bZ (fD k2) 9)) (dk:=Ha.hash (iW k3 v)) (ws:=wsV k2 (iW k3 v)) (R:=R) (sg:=qQ k0 k1 id)
  (CC:=dz id (n32 (zM k1)) (qQ k0 k1 id)) (L:=Im.o7 (iW k3 v) v xs (gU n)) id v sp n cp w h0 h1 h2 h3 hKl (jO hgl (cK _)) (vG _ _ _)
  (fun u k=>Tq v u h0 h1 h2 h3 b3 (by omega) (hT' u k).a)
  (fun u k=>hmk u k)
  (fun u k=>by
   rw [show arr .u8 k1=arr .u8 (n32 (fD k1)) by rw [tH b1 h1]]
   exact Rd.wS (fD k1) u (hT' u k).d (hT' u k).x (hT' u k).y (hT' u k).k)
  (fun u k=>by
   have:=Ct (rs:=k0) (ks:=n32 (zM k1)) (fD k0) (zM k1) id u (Ah b0 h0) ⟨rfl,epub_lt _⟩ (hT' u k).toTabV
   rwa [ZO,if_pos hok,if_pos (show (iX (zM k1)).isSome=true from Ed.may_pub (fD k1))] at this)
  (fun u k=>by
   rw [show arr .u8 k2=arr .u8 (n32 (fD k2)) by rw [tH b2 h2]]
   exact Rd.Ja (fD k2) u (by have:=yF b2;rwa [h2,show (256:Nat) ^ 32=2 ^ 256 by decide] at this))
  (fun u g k hs=>Ha.jw _ 32 32 _ u hs hKb (by decide) (hT' u k).a)
  (fun u k=>by
   have:=R6 (ts:=n32 (bZ (fD k2) 9)) (ds:=Ha.hash (iW k3 v)) (xs:=iW k3 v) (bZ (fD k2) 9) (fD (Ha.hash (iW k3 v))) u ⟨rfl,hx⟩ hdk hKl hKb (hT' u k).a
   rw [(EC k2 _ hKl).2] at this
   have e:Co (bZ (fD k2) 9) (fD (Ha.hash (iW k3 v))) (iW k3 v)=wsV k2 (iW k3 v):=rfl
   rwa [e,hwl] at this)
  (fun s c=>bg v (gU n) R (.slice s 80 c) id (n32 (zM k1)) (qQ k0 k1 id) z64)
  (fun s c=>bg v (gU n) R (.slice s 80 c) id (n32 (zM k1)) (qQ k0 k1 id) (kH (fD k1) (Eb k0 k1 k2 (iW k3 v) R id v (gU n))))
  (qH k0 k1 k2 (iW k3 v) R id v (gU n))
  (fun s c=>⟨bL hR (cK _) hgl (gZ _ _),gH rfl⟩)
  (fun u s c=>by rw [hLl];exact NA v (gU n) id s 80 c hR (cK _) hgl u)
  (fun u s c k h hc=>by
   rw [hLl] at h hc ⊢
   exact hRT u s c (hT' u k) h hc)
  (fun u s c k h=>by
   have hz:(z64:List Int).length=64:=rfl
   refine (KI (fD k1) v (gU n) id s 80 c u (Ah b1 h1) hR (cK _) hgl hz h bR (eY _) hgb hwb (hT' u k).toTabV.s).mono ?_
   rintro e w' ⟨M,E,rfl,h|h,hb⟩
   ·obtain ⟨-, rfl,s2,c2,rfl,ho⟩:=h
    exact ⟨s2,c2,rfl,ho,hb⟩
   ·exact absurd (hmay.symm.trans h.1) (by decide))
  (fun u s c k h=>by
   have:=Sj (ro:=R) (ks:=n32 (zM k1)) (gs:=qQ k0 k1 id) (ss:=kH (fD k1) (Eb k0 k1 k2 (iW k3 v) R id v (gU n))) v (gU n) id s 80 c u hR (cK _) hgl (gZ _ _) h
   rwa [if_pos hmay,if_pos hmay] at this)
 exact key
def PN (k3 xs:List Int) (v:Int):List Int:=II (Im.mh (iW k3 v) v xs 0)
theorem Ws {k0 k1 k2 k3 xs:List Int} (id v:Int) (sp:Option Addr) (n cp:Nat) (w:World) (h0:k0.length=32) (h1:k1.length=32) (h2:k2.length=32) (h3:k3.length=32)
  (b0:bytes k0) (b1:bytes k1) (b2:bytes k2) (b3:bytes k3) (hs:Src w sp n xs) (kc:n≤cp) (hn:n≤64) (hi:0≤id∧id≤2147483647) (hv:0≤v∧v≤2147483647) (hT:oh w) :
  Calls Tryz.prog 18 #[.agg (kX k0 k1 k2 k3), .int .i64 id, .int .i64 v, .slice sp n cp] w fun e w'=>∃ xv lv,e = .returned (.tuple #[xv,lv, .int .i64 0])∧aU w' w.heap.size xv (qH k0 k1 k2 (iW k3 v) (PN k3 xs v) id v 1)∧dV w' w.heap.size lv [Im.mh (iW k3 v) v xs 0]∧Below w.heap.size w w':=by
 have hnb:gU n=1:=by unfold gU;split <;> omega
 have:=Wt (R:=PN k3 xs v) id v sp n cp w h0 h1 h2 h3 b0 b1 b2 b3 hs kc (by omega) hi hv hT (Ha.dM _) (fu _) (fun u s c ht h _=>by
  rw [hnb] at h ⊢
  exact Si s c (Im.mh (iW k3 v) v xs 0) u h (Ae.rH _ _ _ _) (by rw [Im.zD];decide) ht.a)
 rw [hnb] at this
 exact this
end Go.Proofs.YthdgbgleklkaiaaGreatDoor.Ms
namespace Go.Proofs.YthdgbgleklkaiaaGreatDoor.Mf
open Go.RowKit Lm Fp Cu Sl Sc Ce
theorem P8 (sa:Option Addr) (n c:Nat) (xs:List Int) (w:World) (hs:Src w sa n xs) (hx:bytes xs) (hn:n≤1099511627776) (h:F5 xs=false) :
  Calls Tryz.prog 11 #[.slice sa n c] w fun e w'=>e = .returned (.tuple #[.agg gI, .int .i64 4])∧Below w.heap.size w w':=by
 refine (tq sa n c xs w hs hx hn).mono ?_
 rintro e w' ⟨M,E,rfl,k|k,hb⟩
 ·exact absurd (h.symm.trans k.1) (by decide)
 ·obtain ⟨-, rfl,rfl⟩:=k
  exact ⟨rfl,hb⟩
theorem P7 (sa:Option Addr) (n c:Nat) (xs:List Int) (w:World) (hs:Src w sa n xs) (hx:bytes xs) (hn:n≤1099511627776) (h:F5 xs=true) :
  Calls Tryz.prog 11 #[.slice sa n c] w fun e w'=>∃ sw cw,e = .returned (.tuple #[.agg (bg (fv xs) (fb xs) (tY xs) (.slice sw (fws xs).length cw) (fi xs) (sF xs) (sG xs) (sD xs)), .int .i64 0])∧aU w' w.heap.size (.slice sw (fws xs).length cw) (fws xs)∧Below w.heap.size w w':=by
 refine (tq sa n c xs w hs hx hn).mono ?_
 rintro e w' ⟨M,E,rfl,k|k,hb⟩
 ·obtain ⟨-, rfl,sw,cw,rfl,ho⟩:=k
  exact ⟨sw,cw,rfl,ho,hb⟩
 ·exact absurd (h.symm.trans k.1) (by decide)
theorem uY:gI.size=196:=bL (by simp [z32]) (by simp [z32]) (by simp [z64]) (by simp [z64])
theorem NG {v b i:Int} {ro ws ks gs:List Int} (b1:bytes ro) (b2:bytes ks) (b3:bytes gs) (b4:bytes ws):bytes (dW v b ro ws i ks gs):=by
 unfold dW
 intro x hx
 rcases List.mem_append.1 hx with hx|hx
 ·rcases List.mem_append.1 hx with hx|hx
  ·refine jY ?_ x hx
   intro y hy
   rcases List.mem_append.1 hy with hy|hy
   ·rcases List.mem_append.1 hy with hy|hy
    ·exact jY (by unfold bytes;decide) y hy
    ·exact b1 y hy
   ·exact b4 y hy
  ·exact b2 x hx
 ·exact b3 x hx
theorem RA (k2 K:List Int) (h:K.length=32):bytes (Ms.wsV k2 K):=by
 rw [(Ms.EC k2 _ h).1]
 exact jk (eY _) (Ae.rH _ _ _ _)
theorem manW_ok {k0 k1 k2 K R:List Int} {id v b:Int} (hK:K.length=32) (hR:R.length=32) (bR:bytes R) (hv:0≤v∧v≤2147483647) (hb:1≤b∧b≤32) (hi:0≤id∧id≤2147483647) :
  bytes (Ms.qH k0 k1 k2 K R id v b)∧(Ms.qH k0 k1 k2 K R id v b).length=300∧F5 (Ms.qH k0 k1 k2 K R id v b)=true∧fv (Ms.qH k0 k1 k2 K R id v b)=v∧fb (Ms.qH k0 k1 k2 K R id v b)=b∧tY (Ms.qH k0 k1 k2 K R id v b)=R∧fws (Ms.qH k0 k1 k2 K R id v b)=Ms.wsV k2 K∧fi (Ms.qH k0 k1 k2 K R id v b)=id∧sF (Ms.qH k0 k1 k2 K R id v b)=n32 (Ms.zM k1)∧sG (Ms.qH k0 k1 k2 K R id v b)=Ms.qQ k0 k1 id∧sD (Ms.qH k0 k1 k2 K R id v b)=kH (fD k1) (Ms.Eb k0 k1 k2 K R id v b):=by
 have hg:(Ms.qQ k0 k1 id).length=64:=gZ _ _
 have hw:=Ms.Pm k2 K hK
 refine ⟨jk (NG bR (eY _) (pW _ _) (RA k2 K hK)) (pW _ _),?_,Zy hR (cK _) hg (gZ _ _) hw (Ms.Qk hv hb hi)⟩
 rw [Ms.qH,abE,Ms.Eb,JM hR (cK _) hg hw,gZ]
theorem qo (w:World) (hT:Ms.oh w):Calls Tryz.prog 10 #[] w fun e w'=>e = .returned (.bool true)∧Below w.heap.size w w':=by
 have hr1:=fun (u:World)=>P8 none 0 0 [] u ⟨rfl,fun i hi=>absurd hi (by omega)⟩ (by intro x hx;cases hx) (by decide) (fOk_no (by decide))
 have hso:=fun (u:World) (h:Ms.oh u)=>Ms.R3 1 u (by omega) h.a
 have b0:=Wr.fu (jE 1 ++ iq (Ms.Qe 0))
 have b1:=Wr.fu (jE 1 ++ iq (Ms.Qe 1))
 have b2:=Wr.fu (jE 1 ++ iq (Ms.Qe 2))
 have b3:=Wr.fu (jE 1 ++ iq (Ms.Qe 3))
 have hmn:=fun (u:World) (h:Ms.oh u)=>Ms.Ws (k0:=Ms.sec 1 0) (k1:=Ms.sec 1 1) (k2:=Ms.sec 1 2) (k3:=Ms.sec 1 3) (xs:=[]) 1 2 none 0 0 u (Ms.eO 1 0) (Ms.eO 1 1) (Ms.eO 1 2) (Ms.eO 1 3) b0 b1 b2 b3 ⟨rfl,fun i hi=>absurd hi (by omega)⟩ (abD _) (by decide) (by decide) (by decide) h
 have hok:=manW_ok (k0:=Ms.sec 1 0) (k1:=Ms.sec 1 1) (k2:=Ms.sec 1 2) (K:=Ms.iW (Ms.sec 1 3) 2) (R:=Ms.PN (Ms.sec 1 3) [] 2) (id:=1) (v:=2) (b:=1) (Ms.Ag _ _) (Ha.dM _) (Wr.fu _) (by decide) (by decide) (by decide)
 generalize Ms.qH (Ms.sec 1 0) (Ms.sec 1 1) (Ms.sec 1 2) (Ms.iW (Ms.sec 1 3) 2) (Ms.PN (Ms.sec 1 3) [] 2) 1 2 1=X at hmn hok
 generalize Im.mh (Ms.iW (Ms.sec 1 3) 2) 2 [] 0=Y at hmn
 generalize Ms.kX (Ms.sec 1 0) (Ms.sec 1 1) (Ms.sec 1 2) (Ms.sec 1 3)=SC at hso hmn
 obtain ⟨hXb,hXl,hXo,hXv,hXbl,hXr,hXw,hXi,hXk,hXg,hXs⟩:=hok
 have hr2:=fun (u:World) (sa:Option Addr) (n c:Nat) (h:Src u sa n X)=>P7 sa n c X u h hXb (by have:=h.len;omega) hXo
 have l1:(tY X).length=32:=by rw [hXr];exact Ha.dM _
 have l2:(sF X).length=32:=by rw [hXk];exact cK _
 have l3:(sG X).length=64:=by rw [hXg];exact gZ _ _
 have l4:(sD X).length=64:=by rw [hXs];exact gZ _ _
 have HMC:=abC (fun (wv:Value) (ho:wv.oneCell'=true)=>(⟨bL (v:=fv X) (b:=fb X) (i:=fi X) (wv:=wv) l1 l2 l3 l4,gH (v:=fv X) (b:=fb X) (i:=fi X) (ro:=tY X) (ks:=sF X) (gs:=sG X) (ss:=sD X) ho,by rw [rC,hXv],by rw [pq,hXbl]⟩:(bg (fv X) (fb X) (tY X) wv (fi X) (sF X) (sG X) (sD X)).size=196∧(bg (fv X) (fb X) (tY X) wv (fi X) (sF X) (sG X) (sD X)).all (·.oneCell')=true∧(bg (fv X) (fb X) (tY X) wv (fi X) (sF X) (sG X) (sD X))[0]? = some (.int .i64 2)∧(bg (fv X) (fb X) (tY X) wv (fi X) (sF X) (sG X) (sD X))[1]? = some (.int .i64 1)))
 have hz:=fun w=>jS w
 obtain ⟨Z,hZ⟩:∃ c,c=gI:=⟨_,rfl⟩
 have hzs:=uY
 have XH:gI.all (·.oneCell')=true:=gH rfl
 rw [← hZ] at hr1 hz hzs XH
 have HR1:=abC hr1
 have HSO:=abC hso
 have HMN:=abC hmn
 have HR2:=abC hr2
 have HZ:=abC hz
 have HZS:=abC hzs
 have yK:Hid ((Tryz.prog.info? 31).map (·.size)=some Z.size):=abC (by rw [hzs];exact dU)
 have NV:=abC XH
 have HT:=abC hT
 have UU:=abC (fun (e:Int) (u:World)=>uW e u)
 have bW:=abC (bO.nil w)
 clear hT hr1 hso hmn hr2 hz hzs XH hZ b0 b1 b2 b3 hXb hXl hXo hXv hXbl hXr hXw hXi hXk hXg hXs l1 l2 l3 l4
 go_enter Tryz.func10, Tryz.ntmps10
 go_upto_region 2 with (first|((with_reducible show Calls _ 11 _ _ _);go_at_call 11; refine lC (HR1.out w) bW ?_;intro w1 iY)|((with_reducible refine aS 1 ?_);refine lA rfl rfl (HZ.out _) iY ?_;intro g1 w2 HS2)|((with_reducible refine aT 1 ?_);refine lS rfl rfl HS2 0 rfl rfl rfl rfl yK.out NV.out ?_;intro w3 Ef))
 (try simp only [World.size_alloc,Act.put,sA,sZ,sS])
 go_upto_region 3 with (first|((with_reducible show Calls _ 17 _ _ _);go_at_call 17; refine lC (HSO.out _ (HT.out.below Ef.out.below)) Ef ?_;intro w4 H9)|((with_reducible show Calls _ 18 _ _ _);go_at_call 18; refine (HMN.out _ (HT.out.below H9.out.below)).mono ?_;rintro e w5 ⟨xv,lv,rfl,ho, -, hb⟩;have HS5:=abC (H9.out.kept hb);obtain ⟨sx,cx,rfl, -, -, hsx, -⟩:=ho.form;have HO:=abC hsx;clear ho hsx;clear hb))
 (try simp only [World.size_alloc,Act.put,sA,sZ,sS])
 go_upto_region 4 with (first|((with_reducible show Calls _ 11 _ _ _);go_at_call 11; refine (HR2.out _ _ _ _ HO.out).mono ?_;rintro e w6 ⟨sw,cw,rfl, -, hb⟩;have HS6:=abC (HS5.out.kept hb);obtain ⟨MV,hMV⟩:∃ M,M=bg (fv X) (fb X) (tY X) (.slice sw (fws X).length cw) (fi X) (sF X) (sG X) (sD X):=⟨_,rfl⟩;have hmc:=HMC.out (.slice sw (fws X).length cw) rfl;rw [← hMV] at hmc ⊢; have Gs:Hid (MV.size=Z.size):=abC (by rw [hmc.1,HZS.out]);have Oj:Hid ((Tryz.prog.info? 31).map (·.size)=some MV.size):=abC (by rw [hmc.1];exact dU);have HMO:=abC hmc.2.1;have HM0:=abC hmc.2.2.1;have Em:=abC hmc.2.2.2;clear hmc hMV;clear hb)|((with_reducible refine aS 6 ?_);refine lA rfl rfl (HZ.out _) HS6 ?_;intro g6 w7 HS7)|((with_reducible refine aT 6 ?_);refine lS rfl rfl HS7 1 rfl rfl rfl Gs.out Oj.out HMO.out ?_;intro w8 Kg))
 (try simp only [World.size_alloc,Act.put,sA,sZ,sS])
 refine oO (T:=fun _=>False) (w:=w) (sy:=[Yv (.int .i64 4),Yv (.int .i64 4),Yv (.bool true),Yv (.bool true),Yv (.int .i64 0),Yv (.int .i64 0),Yv (.bool true),Yv (.bool true),Yv (.bool true),Yp g6 0,Yv (.int .i64 2),Yv (.bool true),Yv (.bool true),Yv (.bool true),Yp g6 1,Yv (.int .i64 1),Yv (.bool true),Yv (.bool true),Yv (.bool true)]) (pt:=[]) (by kernel_rfl) (by kernel_rfl) Kg.out.holds (fun hW=>?s1) (fun q1 x1 u1 _ hH=>?e1)
 case s1 =>
  refine jH hW ?_
  refine SyD hW ?_ (vs:=[.int .i64 4]) ((fun u _=>(UU.out 4 u).mono (by rintro e w' ⟨rfl,rfl⟩;exact ⟨rfl,Below.refl _ _⟩)))
  refine jH hW ?_
  refine jH hW ?_
  refine oM (jH hW ?_)
  refine oM (SyD hW ?_ (vs:=[.int .i64 0]) ((fun u _=>(UU.out 0 u).mono (by rintro e w' ⟨rfl,rfl⟩;exact ⟨rfl,Below.refl _ _⟩))))
  refine oM (jH hW ?_)
  refine jH hW ?_
  refine jH hW ?_
  refine oM (jH hW ?_)
  refine oM (JV hW ?_ 1 0 MV 31 HM0.out (d:=_) rfl Tryz.underlying3)
  refine oM (jH hW ?_)
  refine jH hW ?_
  refine jH hW ?_
  refine oM (jH hW ?_)
  refine oM (JV hW ?_ 1 1 MV 31 Em.out (d:=_) rfl Tryz.underlying3)
  refine oM (jH hW ?_)
  refine jH hW ?_
  refine jH hW ?_
  exact SyN
 case e1 =>
  have HB1:=abC (hH.blk [0,1] [(g1,Z, 31),(g6,MV, 31)] (by decide) (by kernel_rfl))
  simp only [lay,Sy.at,CQ,Yr,Yv,Yp,Yq,Yn,Y0,Yw,Act.put,sA,sZ,sS,Nat.reduceAdd]
  clear hH Kg
  (try simp only [Exit.then])
  go_wp2_with fail
  go_ret
  exact ⟨rfl,HB1.out.below⟩
end Go.Proofs.YthdgbgleklkaiaaGreatDoor.Mf
namespace Go.Proofs.YthdgbgleklkaiaaGreatDoor.Mf
open Go.RowKit Lm Fp Cu Sl Sc Ce
theorem IW (sb:Option Addr) (nb cb:Nat) (w:World) (hT:Ms.oh w) (h:(1000:Int) < (nb:Int)) :
  Calls Tryz.prog 3 #[.slice sb nb cb] w fun e w'=>e = .returned (.bool true)∧Below w.heap.size w w':=by
 have HAL:=abC (fun (u:World) (h:Ms.oh u)=>qo u h)
 have HT:=abC hT
 have bW:=abC (bO.nil w)
 clear hT
 go_enter Tryz.func3, Tryz.ntmps3
 go_wp2_with ((with_reducible show Calls _ 10 _ _ _);go_at_call 10; refine lC (HAL.out _ HT.out) bW ?_;intro w1 iY)
 (try simp only [Exit.then])
 go_ret
 exact ⟨rfl,iY.out.below⟩
theorem S9 {xs:List Int} (sb:Option Addr) (nb cb:Nat) (w:World) (hs:Src w sb nb xs) (hc:nb≤cb) (hx:bytes xs) (hT:Ms.oh w) (h:¬ (1000:Int) < (nb:Int)) (hf:F5 xs=false) :
  Calls Tryz.prog 3 #[.slice sb nb cb] w fun e w'=>e = .returned (.bool true)∧Below w.heap.size w w':=by
 have hl:=hs.len
 have hal:=fun (u:World) (h:Ms.oh u)=>qo u h
 have hnm:=fun (u:World) (h:Src u sb nb xs)=>IU sb nb cb xs u h hc hx (by omega)
 have hsh:=fun (u:World) (h:Src u sb nb xs) (ht:Ms.oh u)=>Ha.jw sb nb cb xs u h hx (by omega) ht.a
 have hkl:(Ha.hash xs).length=32:=Ha.dM _
 generalize Ha.hash xs=K at hnm hsh hkl
 have hr1:=fun (u:World) (s:Option Addr) (n c:Nat) (h:Src u s n xs)=>P8 s n c xs u h hx (by have:=h.len;omega) hf
 have hr2:∀ (u:World),Src u sb nb xs→Calls Tryz.prog 12 #[.slice sb nb cb] u fun e w'=>e = .returned (.tuple #[.agg gI, .int .i64 4])∧Below u.heap.size u w':=by
  intro u h
  refine (zG sb nb cb xs u h hc hx (by omega)).mono ?_
  rintro e w' ⟨M,E,rfl,k|k,hb⟩
  ·exact absurd (hf.symm.trans k.1) (by decide)
  ·obtain ⟨-, rfl,rfl⟩:=k
   exact ⟨rfl,hb⟩
 have hsm:∀ u:World,Calls Tryz.prog 14 #[.agg gI, .agg gI] u fun e w'=>e = .returned (.bool true)∧Below u.heap.size u w':=fun u=>kY (ro:=z32) (ks:=z32) (gs:=z64) (ss:=z64) (ws:=[]) 0 0 0 none none 0 0 0 u rfl rfl rfl rfl ⟨rfl,fun i hi=>absurd hi (by omega)⟩ ⟨rfl,fun i hi=>absurd hi (by omega)⟩
 have hz:=fun w=>jS w
 have hzs:=uY
 have XH:gI.all (·.oneCell')=true:=gH rfl
 generalize gI=Z at hr1 hr2 hsm hz hzs XH
 have HAL:=abC hal
 have HR1:=abC hr1
 have HR2:=abC hr2
 have UJ:=abC hsm
 have HNM:=abC hnm
 have UK:=abC hsh
 have HEN:=abC (fun w=>F8 K hkl w)
 have HZ:=abC hz
 have HZN:=abC hzs
 have yK:Hid ((Tryz.prog.info? 31).map (·.size)=some Z.size):=abC (by rw [hzs];exact dU)
 have NV:=abC XH
 have yM:=abC hs
 have HLB:=abC hl
 have Q8:=abC h
 have HT:=abC hT
 have UU:=abC (fun (e:Int) (u:World)=>uW e u)
 have bW:=abC (bO.nil w)
 clear hal hr1 hr2 hsm hnm hsh hkl hz hzs XH hs hT hx hc hf hl
 go_enter Tryz.func3, Tryz.ntmps3
 go_upto_region 4 with ((with_reducible show Calls _ 10 _ _ _);go_at_call 10; refine lC (HAL.out _ HT.out) bW ?_;intro w1 iY)
 (try simp only [World.size_alloc,Act.put,sA,sZ,sS])
 go_upto_region 5 with (first|((with_reducible refine aS 19 ?_);refine aX rfl (.const (.slice none 0 0)) (.tmp 18) rfl w1.heap.size _ [] rfl (aU.nil _ _) sb nb cb xs rfl (yM.out.below iY.out.below) (by have:=Q8.out;simp;omega) (abD _) ?_;rw [abF];intro v19 w20 how hgr _ _;have HS2:=abC (iY.out.kept (aZ (aU.nil w1 w1.heap.size) hgr (Below.refl _ _) (abD _)));obtain ⟨s19,c19,rfl, -, -, Lv, -⟩:=how.form;obtain ⟨n19,X5⟩:∃ n,n=xs.length:=⟨_,rfl⟩;rw [← X5] at Lv ⊢; have JX:=abC Lv;clear how hgr Lv X5)|((with_reducible show Calls _ 11 _ _ _);go_at_call 11; refine lC (HR1.out _ _ _ _ JX.out) HS2 ?_;intro w3 Ef)|((with_reducible refine aS 4 ?_);refine lA rfl rfl (HZ.out _) Ef ?_;intro g4 w4 H9)|((with_reducible refine aT 4 ?_);refine lS rfl rfl H9 0 rfl rfl rfl rfl yK.out NV.out ?_;intro w5 HS5))
 (try simp only [World.size_alloc,Act.put,sA,sZ,sS])
 go_upto_region 6 with (first|((with_reducible show Calls _ 12 _ _ _);go_at_call 12; refine lC (HR2.out _ (yM.out.below HS5.out.below)) HS5 ?_;intro w6 HS6)|((with_reducible refine aS 6 ?_);refine lA rfl rfl (HZ.out _) HS6 ?_;intro g6 w7 HS7)|((with_reducible refine aT 6 ?_);refine lS rfl rfl HS7 1 rfl rfl rfl rfl yK.out NV.out ?_;intro w8 Kg))
 (try simp only [World.size_alloc,Act.put,sA,sZ,sS])
 go_wp2_with (first|((with_reducible show Calls _ 13 _ _ _);go_at_call 13; refine (UU.out _ _).mono ?_;rintro e w' ⟨rfl,rfl⟩)|((with_reducible refine aS 33 ?_);refine dI (by rfl) 31 _ rfl (g4) rfl _ _ (0,0) _ (Kg.out.get 0 rfl) Tryz.underlying31 rfl yK.out ?_)|((with_reducible refine aS 34 ?_);refine dI (by rfl) 31 _ rfl (g6) rfl _ _ (0,0) _ (Kg.out.get 1 rfl) Tryz.underlying31 rfl yK.out ?_)|((with_reducible show Calls _ 14 _ _ _);go_at_call 14; refine lC (UJ.out _) Kg ?_;intro w9 HS9)|((with_reducible show Calls _ 15 _ _ _);go_at_call 15; refine lC (HNM.out _ (yM.out.below HS9.out.below)) HS9 ?_;intro w10 Oc)|((with_reducible show Calls _ 16 _ _ _);go_at_call 16; refine lC (UK.out _ (yM.out.below Oc.out.below) (HT.out.below Oc.out.below)) Oc ?_;intro w11 HS11)|((with_reducible refine aS 42 ?_);refine wN (by rfl) (.bool true) (mY (x := .tmp 39) (y := .tmp 41) rfl Ni rfl HEN.out _) ?_))
 all_goals (try simp only [Exit.then])
 go_ret
 exact ⟨rfl,HS11.out.below⟩
theorem SY {xs:List Int} (sb:Option Addr) (nb cb:Nat) (w:World) (hs:Src w sb nb xs) (hc:nb≤cb) (hx:bytes xs) (hT:Ms.oh w) (h:¬ (1000:Int) < (nb:Int)) (hf:F5 xs=true) :
  Calls Tryz.prog 3 #[.slice sb nb cb] w fun e w'=>e = .returned (.bool true)∧Below w.heap.size w w':=by
 have hl:=hs.len
 have hal:=fun (u:World) (h:Ms.oh u)=>qo u h
 have hnm:=fun (u:World) (h:Src u sb nb xs)=>IU sb nb cb xs u h hc hx (by omega)
 have hsh:=fun (u:World) (h:Src u sb nb xs) (ht:Ms.oh u)=>Ha.jw sb nb cb xs u h hx (by omega) ht.a
 have hkl:(Ha.hash xs).length=32:=Ha.dM _
 generalize Ha.hash xs=K at hnm hsh hkl
 have hW:(fws xs).length=80:=by
  unfold F5 iA at hf
  simp only [Bool.and_eq_true,decide_eq_true_eq] at hf
  exact hf.2.1.2
 have hr1:=fun (u:World) (s:Option Addr) (n c:Nat) (h:Src u s n xs)=>P7 s n c xs u h hx (by have:=h.len;omega) hf
 have hr2:∀ (u:World),Src u sb nb xs→Calls Tryz.prog 12 #[.slice sb nb cb] u fun e w'=>∃ sw cw,e = .returned (.tuple #[.agg (bg (fv xs) (fb xs) (tY xs) (.slice sw (fws xs).length cw) (fi xs) (sF xs) (sG xs) (sD xs)), .int .i64 0])∧aU w' u.heap.size (.slice sw (fws xs).length cw) (fws xs)∧Below u.heap.size u w':=by
  intro u h
  refine (zG sb nb cb xs u h hc hx (by omega)).mono ?_
  rintro e w' ⟨M,E,rfl,k|k,hb⟩
  ·obtain ⟨-, rfl,sw,cw,rfl,ho⟩:=k
   exact ⟨sw,cw,rfl,ho,hb⟩
  ·exact absurd (hf.symm.trans k.1) (by decide)
 have h1:(tY xs).length=32:=fq _ _ _
 have h2:(sF xs).length=32:=fq _ _ _
 have h3:(sG xs).length=64:=fq _ _ _
 have h4:(sD xs).length=64:=fq _ _ _
 have hsm:=fun (s1 s2:Option Addr) (c1 c2:Nat) (u:World)=>kY (ro:=tY xs) (ks:=sF xs) (gs:=sG xs) (ss:=sD xs) (ws:=fws xs) (fv xs) (fb xs) (fi xs) s1 s2 (fws xs).length c1 c2 u h1 h2 h3 h4
 have hmc:=fun (wv:Value)=>(⟨bL (v:=fv xs) (b:=fb xs) (i:=fi xs) (wv:=wv) h1 h2 h3 h4,fun ho=>gH (v:=fv xs) (b:=fb xs) (i:=fi xs) (ro:=tY xs) (ks:=sF xs) (gs:=sG xs) (ss:=sD xs) ho⟩:(bg (fv xs) (fb xs) (tY xs) wv (fi xs) (sF xs) (sG xs) (sD xs)).size=196∧(wv.oneCell'=true→(bg (fv xs) (fb xs) (tY xs) wv (fi xs) (sF xs) (sG xs) (sD xs)).all (·.oneCell')=true))
 generalize fws xs=ws at hW hr1 hr2 hsm
 rw [hW] at hr1 hr2 hsm
 obtain ⟨MF,hMF⟩:∃ f:Value→Array Value,f=fun wv=>bg (fv xs) (fb xs) (tY xs) wv (fi xs) (sF xs) (sG xs) (sD xs):=⟨_,rfl⟩
 have hMF':∀ wv,bg (fv xs) (fb xs) (tY xs) wv (fi xs) (sF xs) (sG xs) (sD xs)=MF wv:=fun wv=>by rw [hMF]
 simp only [hMF'] at hr1 hr2 hsm hmc
 have HMC:=abC hmc
 have qV:=abC hW
 clear h1 h2 h3 h4 hMF hMF' hmc hW
 have hz:=fun w=>jS w
 have hzs:=uY
 have XH:gI.all (·.oneCell')=true:=gH rfl
 generalize gI=Z at hz hzs XH
 have HAL:=abC hal
 have HR1:=abC hr1
 have HR2:=abC hr2
 have UJ:=abC hsm
 have HNM:=abC hnm
 have UK:=abC hsh
 have HEN:=abC (fun w=>F8 K hkl w)
 have HZ:=abC hz
 have HZN:=abC hzs
 have yK:Hid ((Tryz.prog.info? 31).map (·.size)=some Z.size):=abC (by rw [hzs];exact dU)
 have NV:=abC XH
 have yM:=abC hs
 have HLB:=abC hl
 have Q8:=abC h
 have HT:=abC hT
 have UU:=abC (fun (e:Int) (u:World)=>uW e u)
 have bW:=abC (bO.nil w)
 clear hal hr1 hr2 hsm hnm hsh hkl hz hzs XH hs hT hx hc hf hl
 go_enter Tryz.func3, Tryz.ntmps3
 go_upto_region 4 with ((with_reducible show Calls _ 10 _ _ _);go_at_call 10; refine lC (HAL.out _ HT.out) bW ?_;intro w1 iY)
 (try simp only [World.size_alloc,Act.put,sA,sZ,sS])
 go_upto_region 5 with (first|((with_reducible refine aS 19 ?_);refine aX rfl (.const (.slice none 0 0)) (.tmp 18) rfl w1.heap.size _ [] rfl (aU.nil _ _) sb nb cb xs rfl (yM.out.below iY.out.below) (by have:=Q8.out;simp;omega) (abD _) ?_;rw [abF];intro v19 w20 how hgr _ _;have HS2:=abC (iY.out.kept (aZ (aU.nil w1 w1.heap.size) hgr (Below.refl _ _) (abD _)));obtain ⟨s19,c19,rfl, -, -, Lv, -⟩:=how.form;obtain ⟨n19,X5⟩:∃ n,n=xs.length:=⟨_,rfl⟩;rw [← X5] at Lv ⊢; have JX:=abC Lv;clear how hgr Lv X5)|((with_reducible show Calls _ 11 _ _ _);go_at_call 11; refine (HR1.out _ _ _ _ JX.out).mono ?_;rintro e w3 ⟨s4,c4,rfl,ho,hb⟩;obtain ⟨g54,c4x,cur4,he,hcx,hB,hS⟩:=HS2.out.own ho hb (by rw [qV.out];decide);rw [qV.out] at he hS;injection he with e1 e2 e3;subst e1 e3;have Ef:=abC hB;have HW4:=abC hS;clear ho hb hB hS hcx e2;have HMS4:Hid ((MF (.slice (some ⟨g54,0,none⟩) 80 c4)).size=Z.size):=abC (by rw [(HMC.out _).1,HZN.out]);have HMI4:Hid ((Tryz.prog.info? 31).map (·.size)=some (MF (.slice (some ⟨g54,0,none⟩) 80 c4)).size):=abC (by rw [(HMC.out _).1];exact dU);have HMO4:=abC ((HMC.out (.slice (some ⟨g54,0,none⟩) 80 c4)).2 rfl))|((with_reducible refine aS 4 ?_);refine lA rfl rfl (HZ.out _) Ef ?_;intro g4 w4 H9)|((with_reducible refine aT 4 ?_);refine lS rfl rfl H9 1 rfl rfl rfl HMS4.out HMI4.out HMO4.out ?_;intro w5 HS5))
 (try simp only [World.size_alloc,Act.put,sA,sZ,sS])
 go_upto_region 6 with (first|((with_reducible show Calls _ 12 _ _ _);go_at_call 12; refine (HR2.out _ (yM.out.below HS5.out.below)).mono ?_;rintro e w6 ⟨s6,c6,rfl,ho,hb⟩;obtain ⟨g56,c6x,cur6,he,hcx,hB,hS⟩:=HS5.out.own ho hb (by rw [qV.out];decide);rw [qV.out] at he hS;injection he with e1 e2 e3;subst e1 e3;have HS6:=abC hB;have UF:=abC hS;clear ho hb hB hS hcx e2;have HMS6:Hid ((MF (.slice (some ⟨g56,0,none⟩) 80 c6)).size=Z.size):=abC (by rw [(HMC.out _).1,HZN.out]);have HMI6:Hid ((Tryz.prog.info? 31).map (·.size)=some (MF (.slice (some ⟨g56,0,none⟩) 80 c6)).size):=abC (by rw [(HMC.out _).1];exact dU);have HMO6:=abC ((HMC.out (.slice (some ⟨g56,0,none⟩) 80 c6)).2 rfl))|((with_reducible refine aS 6 ?_);refine lA rfl rfl (HZ.out _) HS6 ?_;intro g6 w7 HS7)|((with_reducible refine aT 6 ?_);refine lS rfl rfl HS7 3 rfl rfl rfl HMS6.out HMI6.out HMO6.out ?_;intro w8 Kg))
 (try simp only [World.size_alloc,Act.put,sA,sZ,sS])
 go_wp2_with (first|((with_reducible show Calls _ 13 _ _ _);go_at_call 13; refine (UU.out _ _).mono ?_;rintro e w' ⟨rfl,rfl⟩)|((with_reducible refine aS 33 ?_);refine dI (by rfl) 31 _ rfl (g4) rfl _ _ (0,0) _ (Kg.out.get 1 rfl) Tryz.underlying31 rfl HMI4.out ?_)|((with_reducible refine aS 34 ?_);refine dI (by rfl) 31 _ rfl (g6) rfl _ _ (0,0) _ (Kg.out.get 3 rfl) Tryz.underlying31 rfl HMI6.out ?_)|((with_reducible show Calls _ 14 _ _ _);go_at_call 14; refine lC (UJ.out _ _ _ _ _ (HW4.out _ (Kg.out.get 0 rfl)) (UF.out _ (Kg.out.get 2 rfl))) Kg ?_;intro w9 HS9)|((with_reducible show Calls _ 15 _ _ _);go_at_call 15; refine lC (HNM.out _ (yM.out.below HS9.out.below)) HS9 ?_;intro w10 Oc)|((with_reducible show Calls _ 16 _ _ _);go_at_call 16; refine lC (UK.out _ (yM.out.below Oc.out.below) (HT.out.below Oc.out.below)) Oc ?_;intro w11 HS11)|((with_reducible refine aS 42 ?_);refine wN (by rfl) (.bool true) (mY (x := .tmp 39) (y := .tmp 41) rfl Ni rfl HEN.out _) ?_))
 all_goals (try simp only [Exit.then])
 go_ret
 exact ⟨rfl,HS11.out.below⟩
theorem KP {xs:List Int} (sb:Option Addr) (nb cb:Nat) (w:World) (hs:Src w sb nb xs∧bytes xs∧nb≤cb) (hT:Ms.oh w) :
  Calls Tryz.prog 3 #[.slice sb nb cb] w fun e w'=>e = .returned (.bool true)∧Below w.heap.size w w':=by
 by_cases h:(1000:Int) < (nb:Int)
 ·exact IW sb nb cb w hT h
 ·cases hf:F5 xs with
  | false=>exact S9 sb nb cb w hs.1 hs.2.2 hs.2.1 hT h hf
  | true=>exact SY sb nb cb w hs.1 hs.2.2 hs.2.1 hT h hf
end Go.Proofs.YthdgbgleklkaiaaGreatDoor.Mf
