/- The document's (Set).Manifest: portcullislaw17.alive: portcullislaw17.ManifestCuts: portcullislaw17.ManifestPacks. Condition: as each theorem says. -/

import Derived.Test.YthdgbgleklkaiaaDoorQb17
import Derived.Test.YthdgbgleklkaiaaDoorQb27
import Derived.Test.YthdgbgleklkaiaaDoorQb29
import Derived.Test.YthdgbgleklkaiaaDoorQb30
import Derived.Test.YthdgbgleklkaiaaDoorQb32
import Derived.Test.YthdgbgleklkaiaaDoorQb34
import Derived.Test.YthdgbgleklkaiaaDoorQb40
import Derived.Test.YthdgbgleklkaiaaDoorQb41
import Derived.Test.YthdgbgleklkaiaaDoorQb42
import Derived.Test.YthdgbgleklkaiaaDoorQb43
open Go.Lib renaming hid→acD
open List renaming length_append→acE
set_option linter.unusedSimpArgs false
set_option linter.unusedVariables false
set_option maxRecDepth 100000
set_option maxHeartbeats 16000000
namespace Go.Proofs.YthdgbgleklkaiaaDoor.Ms
open Go.RowKit Lm Fp Cu Sl Sc Ce Mf Wr
structure oU (w:World):Prop extends TabV w where
 a:Ha.eP w
theorem oU.below {u u':World} (h:oU u) (b:Below u.heap.size u u'):oU u':=⟨h.toTabV.below b,Ha.eP.kept h.a (Kept.of_below (T:=fun _=>False) b) (fun h=>h)⟩
def zR (k1:List Int):Nat:=xY (fD k1)
def rC (k0 k1:List Int) (id:Int):List Int:=kJ (fD k0) (oJ id (zR k1))
def wsV (k2 K:List Int):List Int:=CF (bW (fD k2) 9) (fD (Ha.hash K)) K
def Ee (k0 k1 k2 K R:List Int) (id v b:Int):List Int:=bV v b R (wsV k2 K) id (n32 (zR k1)) (rC k0 k1 id)
def qY (k0 k1 k2 K R:List Int) (id v b:Int):List Int:=Ee k0 k1 k2 K R id v b ++ kJ (fD k1) (Ee k0 k1 k2 K R id v b)
theorem Ai {xs:List Int} (h:bytes xs) (hl:xs.length=32):Nv xs (fD xs):=⟨(uq h hl).symm,by have:=yK h;rwa [hl] at this⟩
theorem Ey (k2 K:List Int) (h:K.length=32):wsV k2 K=n32 (bW (fD (Ha.hash K)) 9) ++ sealed (bW (fD k2) 9) (fD (Ha.hash K)) K∧Rn (bW (fD k2) 9) (fD (Ha.hash K))=0:=by
 have:=Ed.x_ne (fD k2) (fD (Ha.hash K))
 exact ⟨by rw [wsV,CF,if_neg this],by rw [Rn,if_neg this]⟩
theorem OW (k2 K:List Int) (h:K.length=32):(wsV k2 K).length=80:=by
 rw [(Ey k2 K h).1,acE,bX,zJ _ _ _ h]
theorem P7 {v b i:Int} (hv:0≤v∧v≤2147483647) (hb:1≤b∧b≤32) (hi:0≤i∧i≤2147483647):gq v b 80 i=true:=by
 simp [gq,wZ,hv.1,hv.2,hb.1,hb.2,hi.1,hi.2]
theorem EX {n:Nat} (h:n≤2048):1≤gZ n∧gZ n≤32:=by unfold gZ;split <;> omega
theorem VK {k0 k1 k2 k3 xs R:List Int} (id v:Int) (sp:Option Addr) (n cp:Nat) (w:World) (h0:k0.length=32) (h1:k1.length=32) (h2:k2.length=32) (h3:k3.length=32)
  (b0:bytes k0) (b1:bytes k1) (b2:bytes k2) (b3:bytes k3) (hs:Src w sp n xs) (kc:n≤cp) (hn:n≤2048) (hi:0≤id∧id≤2147483647) (hv:0≤v∧v≤2147483647) (hT:oU w)
  (hR:R.length=32) (bR:bytes R)
  (hRT:∀ u s c,oU u→oq u s (gZ n) (Im.pI (iT k3 v) v xs (gZ n))→Calls Tryd.prog 38 #[.slice s (gZ n) c] u fun e w'=>e = .returned (.agg (arr .u8 R))∧Below u.heap.size u w') :
  Calls Tryd.prog 16 #[.agg (lF k0 k1 k2 k3), .int .i64 id, .int .i64 v, .slice sp n cp] w fun e w'=>∃ xv lv,e = .returned (.tuple #[xv,lv, .int .i64 0])∧aU w' w.heap.size xv (qY k0 k1 k2 (iT k3 v) R id v (gZ n))∧dX w' w.heap.size lv (Im.pI (iT k3 v) v xs (gZ n))∧Below w.heap.size w w':=by
 have hT':∀ u,Below w.heap.size w u→oU u:=fun u k=>hT.below k
 have hKl:=Ah k3 v
 have hKb:bytes (iT k3 v):=fu _
 have hLl:=Im.vE (iT k3 v) v xs (gZ n)
 have hnb:=EX hn
 have hmay:=P7 (b:=(gZ n:Int)) hv ⟨by omega,by omega⟩ hi
 have hwl:=OW k2 _ hKl
 have hgl:(rC k0 k1 id).length=64:=gV _ _
 have hgb:bytes (rC k0 k1 id):=qo _ _
 have hok:wZ id=true:=by simp [wZ,hi.1,hi.2]
 have hmk:=fun u (k:Below w.heap.size w u)=>Im.RZ (iT k3 v) xs v sp n cp u hKl hKb (hs.below k) kc hn hv
 have hwb:bytes (wsV k2 (iT k3 v)):=by
  rw [(Ey k2 _ hKl).1]
  exact gX (eY _) (Ae.su _ _ _ _)
 have hdk:=Ai (fu (iT k3 v)) (Ha.dS _)
 have hx:bW (fD k2) 9 < 256 ^ 32:=Nat.lt_trans (vo _ _) (by decide +kernel)
 have key:=RY (k0:=k0) (k1:=k1) (k2:=k2) (k3:=k3) (K:=iT k3 v) (pk:=n32 (zR k1)) (tk:=n32 (bW (fD k2) 9)) (dk:=Ha.hash (iT k3 v)) (ws:=wsV k2 (iT k3 v)) (R:=R) (sg:=rC k0 k1 id)
  (CC:=dn id (n32 (zR k1)) (rC k0 k1 id)) (L:=Im.pI (iT k3 v) v xs (gZ n)) id v sp n cp w h0 h1 h2 h3 hKl (jJ hgl (bX _)) (vT _ _ _)
  (fun u k=>SI v u h0 h1 h2 h3 b3 (by omega) (hT' u k).a)
  (fun u k=>hmk u k)
  (fun u k=>by
   rw [show arr .u8 k1=arr .u8 (n32 (fD k1)) by rw [uq b1 h1]]
   exact Rd.wY (fD k1) u (hT' u k).d (hT' u k).x (hT' u k).y (hT' u k).k)
  (fun u k=>by
   have:=CK (rs:=k0) (ks:=n32 (zR k1)) (fD k0) (zR k1) id u (Ai b0 h0) ⟨rfl,epub_lt _⟩ (hT' u k).toTabV
   rwa [abI,if_pos hok,if_pos (show (iU (zR k1)).isSome=true from Ed.may_pub (fD k1))] at this)
  (fun u k=>by
   rw [show arr .u8 k2=arr .u8 (n32 (fD k2)) by rw [uq b2 h2]]
   exact Rd.Iz (fD k2) u (by have:=yK b2;rwa [h2,show (256:Nat) ^ 32=2 ^ 256 by decide] at this))
  (fun u g k hs=>Ha.jL _ 32 32 _ u hs hKb (by decide) (hT' u k).a)
  (fun u k=>by
   have:=RI (ts:=n32 (bW (fD k2) 9)) (ds:=Ha.hash (iT k3 v)) (xs:=iT k3 v) (bW (fD k2) 9) (fD (Ha.hash (iT k3 v))) u ⟨rfl,hx⟩ hdk hKl hKb (hT' u k).a
   rw [(Ey k2 _ hKl).2] at this
   have e:CF (bW (fD k2) 9) (fD (Ha.hash (iT k3 v))) (iT k3 v)=wsV k2 (iT k3 v):=rfl
   rwa [e,hwl] at this)
  (fun s c=>aZ v (gZ n) R (.slice s 80 c) id (n32 (zR k1)) (rC k0 k1 id) z64)
  (fun s c=>aZ v (gZ n) R (.slice s 80 c) id (n32 (zR k1)) (rC k0 k1 id) (kJ (fD k1) (Ee k0 k1 k2 (iT k3 v) R id v (gZ n))))
  (qY k0 k1 k2 (iT k3 v) R id v (gZ n))
  (fun s c=>⟨bK hR (bX _) hgl (gV _ _),jo rfl⟩)
  (fun u s c=>by rw [hLl];exact Nh v (gZ n) id s 80 c hR (bX _) hgl u)
  (fun u s c k h=>by
   rw [hLl] at h ⊢
   exact hRT u s c (hT' u k) h)
  (fun u s c k h=>by
   have hz:(z64:List Int).length=64:=rfl
   refine (Km (fD k1) v (gZ n) id s 80 c u (Ai b1 h1) hR (bX _) hgl hz h bR (eY _) hgb hwb (hT' u k).toTabV.s).mono ?_
   rintro e w' ⟨M,E,rfl,h|h,hb⟩
   ·obtain ⟨-, rfl,s2,c2,rfl,ho⟩:=h
    exact ⟨s2,c2,rfl,ho,hb⟩
   ·exact absurd (hmay.symm.trans h.1) (by decide))
  (fun u s c k h=>by
   have:=vF (ro:=R) (ks:=n32 (zR k1)) (gs:=rC k0 k1 id) (ss:=kJ (fD k1) (Ee k0 k1 k2 (iT k3 v) R id v (gZ n))) v (gZ n) id s 80 c u hR (bX _) hgl (gV _ _) h
   rwa [if_pos hmay,if_pos hmay] at this)
 exact key
def Pf (k3 xs:List Int) (v:Int):List Int:=Ia (Im.mD (iT k3 v) v xs 0)
theorem VJ {k0 k1 k2 k3 xs:List Int} (id v:Int) (sp:Option Addr) (n cp:Nat) (w:World) (h0:k0.length=32) (h1:k1.length=32) (h2:k2.length=32) (h3:k3.length=32)
  (b0:bytes k0) (b1:bytes k1) (b2:bytes k2) (b3:bytes k3) (hs:Src w sp n xs) (kc:n≤cp) (hn:n≤64) (hi:0≤id∧id≤2147483647) (hv:0≤v∧v≤2147483647) (hT:oU w) :
  Calls Tryd.prog 16 #[.agg (lF k0 k1 k2 k3), .int .i64 id, .int .i64 v, .slice sp n cp] w fun e w'=>∃ xv lv,e = .returned (.tuple #[xv,lv, .int .i64 0])∧aU w' w.heap.size xv (qY k0 k1 k2 (iT k3 v) (Pf k3 xs v) id v 1)∧dX w' w.heap.size lv [Im.mD (iT k3 v) v xs 0]∧Below w.heap.size w w':=by
 have hnb:gZ n=1:=by unfold gZ;split <;> omega
 have:=VK (R:=Pf k3 xs v) id v sp n cp w h0 h1 h2 h3 b0 b1 b2 b3 hs kc (by omega) hi hv hT (Ha.dS _) (fu _) (fun u s c ht h=>by
  rw [hnb] at h ⊢
  exact RQ s c (Im.mD (iT k3 v) v xs 0) u h (Ae.su _ _ _ _) (by rw [Im.zK];decide) ht.a)
 rw [hnb] at this
 exact this
end Go.Proofs.YthdgbgleklkaiaaDoor.Ms
namespace Go.Proofs.YthdgbgleklkaiaaDoor.Mf
open Go.RowKit Lm Fp Cu Sl Sc Ce
theorem read_no (sa:Option Addr) (n c:Nat) (xs:List Int) (w:World) (hs:Src w sa n xs) (hx:bytes xs) (hn:n≤1099511627776) (h:Uv xs=false) :
  Calls Tryd.prog 7 #[.slice sa n c] w fun e w'=>e = .returned (.tuple #[.agg iI, .int .i64 4])∧Below w.heap.size w w':=by
 refine (uj sa n c xs w hs hx hn).mono ?_
 rintro e w' ⟨M,E,rfl,k|k,hb⟩
 ·exact absurd (h.symm.trans k.1) (by decide)
 ·obtain ⟨-, rfl,rfl⟩:=k
  exact ⟨rfl,hb⟩
theorem PI (sa:Option Addr) (n c:Nat) (xs:List Int) (w:World) (hs:Src w sa n xs) (hx:bytes xs) (hn:n≤1099511627776) (h:Uv xs=true) :
  Calls Tryd.prog 7 #[.slice sa n c] w fun e w'=>∃ sw cw,e = .returned (.tuple #[.agg (aZ (fv xs) (fb xs) (JU xs) (.slice sw (fws xs).length cw) (fi xs) (Jb xs) (Jc xs) (I6 xs)), .int .i64 0])∧aU w' w.heap.size (.slice sw (fws xs).length cw) (fws xs)∧Below w.heap.size w w':=by
 refine (uj sa n c xs w hs hx hn).mono ?_
 rintro e w' ⟨M,E,rfl,k|k,hb⟩
 ·obtain ⟨-, rfl,sw,cw,rfl,ho⟩:=k
  exact ⟨sw,cw,rfl,ho,hb⟩
 ·exact absurd (h.symm.trans k.1) (by decide)
theorem DF:iI.size=196:=bK (by simp [z32]) (by simp [z32]) (by simp [z64]) (by simp [z64])
theorem sD {v b i:Int} {ro ws ks gs:List Int} (b1:bytes ro) (b2:bytes ks) (b3:bytes gs) (b4:bytes ws):bytes (bV v b ro ws i ks gs):=by
 unfold bV
 intro x hx
 rcases List.mem_append.1 hx with hx|hx
 ·rcases List.mem_append.1 hx with hx|hx
  ·refine jW ?_ x hx
   intro y hy
   rcases List.mem_append.1 hy with hy|hy
   ·rcases List.mem_append.1 hy with hy|hy
    ·exact jW (by unfold bytes;decide) y hy
    ·exact b1 y hy
   ·exact b4 y hy
  ·exact b2 x hx
 ·exact b3 x hx
theorem Rk (k2 K:List Int) (h:K.length=32):bytes (Ms.wsV k2 K):=by
 rw [(Ms.Ey k2 _ h).1]
 exact gX (eY _) (Ae.su _ _ _ _)
theorem manW_ok {k0 k1 k2 K R:List Int} {id v b:Int} (hK:K.length=32) (hR:R.length=32) (bR:bytes R) (hv:0≤v∧v≤2147483647) (hb:1≤b∧b≤32) (hi:0≤id∧id≤2147483647) :
  bytes (Ms.qY k0 k1 k2 K R id v b)∧(Ms.qY k0 k1 k2 K R id v b).length=300∧Uv (Ms.qY k0 k1 k2 K R id v b)=true∧fv (Ms.qY k0 k1 k2 K R id v b)=v∧fb (Ms.qY k0 k1 k2 K R id v b)=b∧JU (Ms.qY k0 k1 k2 K R id v b)=R∧fws (Ms.qY k0 k1 k2 K R id v b)=Ms.wsV k2 K∧fi (Ms.qY k0 k1 k2 K R id v b)=id∧Jb (Ms.qY k0 k1 k2 K R id v b)=n32 (Ms.zR k1)∧Jc (Ms.qY k0 k1 k2 K R id v b)=Ms.rC k0 k1 id∧I6 (Ms.qY k0 k1 k2 K R id v b)=kJ (fD k1) (Ms.Ee k0 k1 k2 K R id v b):=by
 have hg:(Ms.rC k0 k1 id).length=64:=gV _ _
 have hw:=Ms.OW k2 K hK
 refine ⟨gX (sD bR (eY _) (qo _ _) (Rk k2 K hK)) (qo _ _),?_,Jd hR (bX _) hg (gV _ _) hw (Ms.P7 hv hb hi)⟩
 rw [Ms.qY,acE,Ms.Ee,qD hR (bX _) hg hw,gV]
theorem qE (w:World) (hT:Ms.oU w):Calls Tryd.prog 5 #[] w fun e w'=>e = .returned (.bool true)∧Below w.heap.size w w':=by
 have hr1:=fun (u:World)=>read_no none 0 0 [] u ⟨rfl,fun i hi=>absurd hi (by omega)⟩ (by intro x hx;cases hx) (by decide) (fOk_no (by decide))
 have hso:=fun (u:World) (h:Ms.oU u)=>Ms.RA 1 u (by omega) h.a
 have b0:=Wr.fu (iV 1 ++ gY (Ms.PX 0))
 have b1:=Wr.fu (iV 1 ++ gY (Ms.PX 1))
 have b2:=Wr.fu (iV 1 ++ gY (Ms.PX 2))
 have b3:=Wr.fu (iV 1 ++ gY (Ms.PX 3))
 have hmn:=fun (u:World) (h:Ms.oU u)=>Ms.VJ (k0:=Ms.sec 1 0) (k1:=Ms.sec 1 1) (k2:=Ms.sec 1 2) (k3:=Ms.sec 1 3) (xs:=[]) 1 2 none 0 0 u (Ms.eO 1 0) (Ms.eO 1 1) (Ms.eO 1 2) (Ms.eO 1 3) b0 b1 b2 b3 ⟨rfl,fun i hi=>absurd hi (by omega)⟩ (Nat.le_refl _) (by decide) (by decide) (by decide) h
 have hok:=manW_ok (k0:=Ms.sec 1 0) (k1:=Ms.sec 1 1) (k2:=Ms.sec 1 2) (K:=Ms.iT (Ms.sec 1 3) 2) (R:=Ms.Pf (Ms.sec 1 3) [] 2) (id:=1) (v:=2) (b:=1) (Ms.Ah _ _) (Ha.dS _) (Wr.fu _) (by decide) (by decide) (by decide)
 generalize Ms.qY (Ms.sec 1 0) (Ms.sec 1 1) (Ms.sec 1 2) (Ms.iT (Ms.sec 1 3) 2) (Ms.Pf (Ms.sec 1 3) [] 2) 1 2 1=X at hmn hok
 generalize Im.mD (Ms.iT (Ms.sec 1 3) 2) 2 [] 0=Y at hmn
 generalize Ms.lF (Ms.sec 1 0) (Ms.sec 1 1) (Ms.sec 1 2) (Ms.sec 1 3)=SC at hso hmn
 obtain ⟨hXb,hXl,hXo,hXv,hXbl,hXr,hXw,hXi,hXk,hXg,hXs⟩:=hok
 have hr2:=fun (u:World) (sa:Option Addr) (n c:Nat) (h:Src u sa n X)=>PI sa n c X u h hXb (by have:=h.len;omega) hXo
 have l1:(JU X).length=32:=by rw [hXr];exact Ha.dS _
 have l2:(Jb X).length=32:=by rw [hXk];exact bX _
 have l3:(Jc X).length=64:=by rw [hXg];exact gV _ _
 have l4:(I6 X).length=64:=by rw [hXs];exact gV _ _
 have HMC:=acD (fun (wv:Value) (ho:wv.oneCell'=true)=>(⟨bK (v:=fv X) (b:=fb X) (i:=fi X) (wv:=wv) l1 l2 l3 l4,jo (v:=fv X) (b:=fb X) (i:=fi X) (ro:=JU X) (ks:=Jb X) (gs:=Jc X) (ss:=I6 X) ho,by rw [rW,hXv],by rw [lI,hXbl]⟩:(aZ (fv X) (fb X) (JU X) wv (fi X) (Jb X) (Jc X) (I6 X)).size=196∧(aZ (fv X) (fb X) (JU X) wv (fi X) (Jb X) (Jc X) (I6 X)).all (·.oneCell')=true∧(aZ (fv X) (fb X) (JU X) wv (fi X) (Jb X) (Jc X) (I6 X))[0]? = some (.int .i64 2)∧(aZ (fv X) (fb X) (JU X) wv (fi X) (Jb X) (Jc X) (I6 X))[1]? = some (.int .i64 1)))
 have hz:=fun w=>mI w
 obtain ⟨Z,hZ⟩:∃ c,c=iI:=⟨_,rfl⟩
 have hzs:=DF
 have hzo:iI.all (·.oneCell')=true:=jo rfl
 rw [← hZ] at hr1 hz hzs hzo
 have HR1:=acD hr1
 have HSO:=acD hso
 have HMN:=acD hmn
 have HR2:=acD hr2
 have HZ:=acD hz
 have HZS:=acD hzs
 have HZI:Hid ((Tryd.prog.info? 30).map (·.size)=some Z.size):=acD (by rw [hzs];exact eD)
 have HZO:=acD hzo
 have HT:=acD hT
 have NC:=acD (fun (e:Int) (u:World)=>vH e u)
 have bQ:=acD (bM.nil w)
 clear hT hr1 hso hmn hr2 hz hzs hzo hZ b0 b1 b2 b3 hXb hXl hXo hXv hXbl hXr hXw hXi hXk hXg hXs l1 l2 l3 l4
 go_enter Tryd.func5, Tryd.ntmps5
 go_upto_region 2 with (first|((with_reducible show Calls _ 7 _ _ _);go_at_call 7; refine lC (HR1.out w) bQ ?_;intro w1 iO)|((with_reducible refine aS 1 ?_);refine lA rfl rfl (HZ.out _) iO ?_;intro g1 w2 HS2)|((with_reducible refine aT 1 ?_);refine lS rfl rfl HS2 0 rfl rfl rfl rfl HZI.out HZO.out ?_;intro w3 yR))
 (try simp only [World.size_alloc,Act.put,sA,sZ,sS])
 go_upto_region 3 with (first|((with_reducible show Calls _ 15 _ _ _);go_at_call 15; refine lC (HSO.out _ (HT.out.below yR.out.below)) yR ?_;intro w4 Cv)|((with_reducible show Calls _ 16 _ _ _);go_at_call 16; refine (HMN.out _ (HT.out.below Cv.out.below)).mono ?_;rintro e w5 ⟨xv,lv,rfl,ho, -, hb⟩;have UA:=acD (Cv.out.kept hb);obtain ⟨sx,cx,rfl, -, -, hsx, -⟩:=ho.form;have HO:=acD hsx;clear ho hsx;clear hb))
 (try simp only [World.size_alloc,Act.put,sA,sZ,sS])
 go_upto_region 4 with (first|((with_reducible show Calls _ 7 _ _ _);go_at_call 7; refine (HR2.out _ _ _ _ HO.out).mono ?_;rintro e w6 ⟨sw,cw,rfl, -, hb⟩;have HS6:=acD (UA.out.kept hb);obtain ⟨MV,hMV⟩:∃ M,M=aZ (fv X) (fb X) (JU X) (.slice sw (fws X).length cw) (fi X) (Jb X) (Jc X) (I6 X):=⟨_,rfl⟩;have hmc:=HMC.out (.slice sw (fws X).length cw) rfl;rw [← hMV] at hmc ⊢; have F3:Hid (MV.size=Z.size):=acD (by rw [hmc.1,HZS.out]);have Cy:Hid ((Tryd.prog.info? 30).map (·.size)=some MV.size):=acD (by rw [hmc.1];exact eD);have HMO:=acD hmc.2.1;have HM0:=acD hmc.2.2.1;have Cz:=acD hmc.2.2.2;clear hmc hMV;clear hb)|((with_reducible refine aS 6 ?_);refine lA rfl rfl (HZ.out _) HS6 ?_;intro g6 w7 Ui)|((with_reducible refine aT 6 ?_);refine lS rfl rfl Ui 1 rfl rfl rfl F3.out Cy.out HMO.out ?_;intro w8 Uz))
 (try simp only [World.size_alloc,Act.put,sA,sZ,sS])
 refine o9 (T:=fun _=>False) (w:=w) (sy:=[Yv (.int .i64 4),Yv (.int .i64 4),Yv (.bool true),Yv (.bool true),Yv (.int .i64 0),Yv (.int .i64 0),Yv (.bool true),Yv (.bool true),Yv (.bool true),Yp g6 0,Yv (.int .i64 2),Yv (.bool true),Yv (.bool true),Yv (.bool true),Yp g6 1,Yv (.int .i64 1),Yv (.bool true),Yv (.bool true),Yv (.bool true)]) (pt:=[]) (by kernel_rfl) (by kernel_rfl) Uz.out.holds (fun hW=>?s1) (fun q1 x1 u1 _ hH=>?e1)
 case s1 =>
  refine jD hW ?_
  refine SyD hW ?_ (vs:=[.int .i64 4]) ((fun u _=>(NC.out 4 u).mono (by rintro e w' ⟨rfl,rfl⟩;exact ⟨rfl,Below.refl _ _⟩)))
  refine jD hW ?_
  refine jD hW ?_
  refine o8 (jD hW ?_)
  refine o8 (SyD hW ?_ (vs:=[.int .i64 0]) ((fun u _=>(NC.out 0 u).mono (by rintro e w' ⟨rfl,rfl⟩;exact ⟨rfl,Below.refl _ _⟩))))
  refine o8 (jD hW ?_)
  refine jD hW ?_
  refine jD hW ?_
  refine o8 (jD hW ?_)
  refine o8 (Jv hW ?_ 1 0 MV 30 HM0.out (d:=_) rfl Tryd.underlying3)
  refine o8 (jD hW ?_)
  refine jD hW ?_
  refine jD hW ?_
  refine o8 (jD hW ?_)
  refine o8 (Jv hW ?_ 1 1 MV 30 Cz.out (d:=_) rfl Tryd.underlying3)
  refine o8 (jD hW ?_)
  refine jD hW ?_
  refine jD hW ?_
  exact SyN
 case e1 =>
  have HB1:=acD (hH.blk [0,1] [(g1,Z, 30),(g6,MV, 30)] (by decide) (by kernel_rfl))
  simp only [lay,Sy.at,CV,Yr,Yv,Yp,Yq,Yn,Y0,Yw,Act.put,sA,sZ,sS,Nat.reduceAdd]
  clear hH Uz
  (try simp only [Exit.then])
  go_wp2_with fail
  go_ret
  exact ⟨rfl,HB1.out.below⟩
end Go.Proofs.YthdgbgleklkaiaaDoor.Mf
namespace Go.Proofs.YthdgbgleklkaiaaDoor.Mf
open Go.RowKit Lm Fp Cu Sl Sc Ce
theorem R3 {v b i:Int} {ro ws ks gs ss:List Int} (sa:Option Addr) (n c:Nat) (w:World) (h1:ro.length=32) (h2:ks.length=32) (h3:gs.length=64) (h4:ss.length=64) (h5:ws.length=80) (hm:gq v b 80 i=true)
  (b1:bytes ro) (b2:bytes ks) (b3:bytes gs) (b4:bytes ss) (b5:bytes ws) (hs:Src w sa n (bV v b ro ws i ks gs ++ ss)) :
  Calls Tryd.prog 7 #[.slice sa n c] w fun e w'=>∃ s2 c2,e = .returned (.tuple #[.agg (aZ v b ro (.slice s2 80 c2) i ks gs ss), .int .i64 0])∧aU w' w.heap.size (.slice s2 80 c2) ws∧Below w.heap.size w w':=by
 obtain ⟨e0,e1,e2,e3,e4,e5,e6,e7,e8⟩:=Jd h1 h2 h3 h4 h5 hm
 have hl:(bV v b ro ws i ks gs ++ ss).length=300:=by rw [acE,qD h1 h2 h3 h5,h4]
 have key:=PI sa n c (bV v b ro ws i ks gs ++ ss) w hs (gX (sD b1 b2 b3 b5) b4) (by have:=hs.len;omega) e0
 rw [e1,e2,e3,e4,e5,e6,e7,e8,h5] at key
 refine key.mono ?_
 rintro e w' ⟨s2,c2,rfl,ho,hb⟩
 exact ⟨s2,c2,rfl,ho,hb⟩
end Go.Proofs.YthdgbgleklkaiaaDoor.Mf
namespace Go.Proofs.YthdgbgleklkaiaaDoor.Mf
open Go.RowKit Lm Fp Cu Sl Sc Ce
theorem KA {ro ks gs ss ws:List Int} (v b i:Int) (sw:Option Addr) (nw cw:Nat) (w:World) (h1:ro.length=32) (h2:ks.length=32) (h3:gs.length=64) (h4:ss.length=64) (hws:Src w sw nw ws) (hT:Ms.oU w) (h:(300:Int) < (nw:Int)) :
  Calls Tryd.prog 4 #[.agg (aZ v b ro (.slice sw nw cw) i ks gs ss)] w fun e w'=>e = .returned (.bool true)∧Below w.heap.size w w':=by
 have hal:=fun (u:World) (h:Ms.oU u)=>qE u h
 have Am:=iq (v:=v) (b:=b) (i:=i) (ks:=ks) (gs:=gs) (ss:=ss) (wv := .slice sw nw cw) h1
 have hsi:(Tryd.prog.info? 30).map (·.size)=some (aZ v b ro (.slice sw nw cw) i ks gs ss).size:=by rw [bK h1 h2 h3 h4];exact eD
 generalize aZ v b ro (.slice sw nw cw) i ks gs ss=M at Am hsi ⊢
 have HAL:=acD hal
 have qG:=acD Am
 have HT:=acD hT
 have bQ:=acD (bM.one w M 30)
 clear hal Am hsi hT h1 h2 h3 h4 hws
 go_enter Tryd.func4, Tryd.ntmps4
 go_upto_region 2 with ((with_reducible show Calls _ 5 _ _ _);go_at_call 5; refine lC (HAL.out _ (HT.out.below bQ.out.below)) bQ ?_;intro w1 iO)
 (try simp only [World.size_alloc,Act.put,sA,sZ,sS])
 have c0:w1.cell? ⟨w.heap.size,34,none⟩=some (.slice sw nw cw):=by rw [aF (iO.out.get 0 rfl)];exact qG.out
 go_wp2_with fail
 (try simp only [Exit.then])
 go_ret
 exact ⟨rfl,iO.out.below⟩
theorem Wl {ro ks gs ss ws:List Int} (v b i:Int) (sw:Option Addr) (nw cw:Nat) (w:World) (h1:ro.length=32) (h2:ks.length=32) (h3:gs.length=64) (h4:ss.length=64) (hws:Src w sw nw ws) (hT:Ms.oU w) (hm:gq v b nw i=false) (h:¬ (300:Int) < (nw:Int)) :
  Calls Tryd.prog 4 #[.agg (aZ v b ro (.slice sw nw cw) i ks gs ss)] w fun e w'=>e = .returned (.bool true)∧Below w.heap.size w w':=by
 have hal:=fun (u:World) (h:Ms.oU u)=>qE u h
 have Am:=iq (v:=v) (b:=b) (i:=i) (ks:=ks) (gs:=gs) (ss:=ss) (wv := .slice sw nw cw) h1
 have hsi:(Tryd.prog.info? 30).map (·.size)=some (aZ v b ro (.slice sw nw cw) i ks gs ss).size:=by rw [bK h1 h2 h3 h4];exact eD
 have hp1:=fun (u:World) (k:Below w.heap.size w u)=>Ih (ro:=ro) (ks:=ks) (gs:=gs) (ss:=ss) v b i sw nw cw u h1 h2 h3 h4 (hws.below k)
 have hp2:=fun (u:World) (k:Below w.heap.size w u)=>vF (ro:=ro) (ks:=ks) (gs:=gs) (ss:=ss) v b i sw nw cw u h1 h2 h3 h4 (hws.below k)
 have hp3:=fun (u:World) (k:Below w.heap.size w u)=>Bc (ro:=ro) (ks:=ks) (gs:=gs) (ss:=ss) v b i sw nw cw u h1 h2 h3 h4 (hws.below k)
 have hp4:=fun (u:World) (k:Below w.heap.size w u)=>qJ (ro:=ro) (ks:=ks) (gs:=gs) (ss:=ss) v b i sw nw cw u h1 h2 h3 h4 (hws.below k)
 simp only [hm,if_false,Bool.false_eq_true] at hp1 hp2 hp3 hp4
 generalize aZ v b ro (.slice sw nw cw) i ks gs ss=M at Am hsi hp1 hp2 hp3 hp4 ⊢
 obtain ⟨S,hS⟩:∃ S,S=strOfNums []:=⟨_,rfl⟩
 have hSS:(S.toList == S.toList)=true:=by simp
 have HST:Hid (strOfNums []=S):=acD hS.symm
 have HAL:=acD hal
 have qG:=acD Am
 have FU:=acD hsi
 have HP1:=acD hp1
 have yj:=acD hp2
 have Cx:=acD hp3
 have HP4:=acD hp4
 have HT:=acD hT
 have NC:=acD (fun (e:Int) (u:World)=>vH e u)
 have bQ:=acD (bM.one w M 30)
 clear hal Am hsi hT h1 h2 h3 h4 hws hp1 hp2 hp3 hp4 hm hS
 go_enter Tryd.func4, Tryd.ntmps4
 go_upto_region 2 with ((with_reducible show Calls _ 5 _ _ _);go_at_call 5; refine lC (HAL.out _ (HT.out.below bQ.out.below)) bQ ?_;intro w1 iO)
 (try simp only [World.size_alloc,Act.put,sA,sZ,sS])
 have c0:w1.cell? ⟨w.heap.size,34,none⟩=some (.slice sw nw cw):=by rw [aF (iO.out.get 0 rfl)];exact qG.out
 go_upto_region 4 with fail
 (try simp only [World.size_alloc,Act.put,sA,sZ,sS])
 clear c0
 go_upto_region 5 with (first|((with_reducible refine aS 25 ?_);refine wpList_load_row rfl 30 _ rfl (w.heap.size) rfl 30 _ (0,0) _ (iO.out.get 0 rfl) Tryd.underlying30 rfl FU.out ?_)|((with_reducible show Calls _ 10 _ _ _);go_at_call 10; refine (HP1.out _ iO.out.below).mono ?_;rintro e w2 ⟨v2,rfl,ho,hb⟩;have HS2:=acD (iO.out.kept hb);have HO1_1:=acD ho;clear ho hb))
 (try simp only [World.size_alloc,Act.put,sA,sZ,sS])
 go_upto_region 6 with (first|((with_reducible refine aS 30 ?_);refine wpList_load_row rfl 30 _ rfl (w.heap.size) rfl 30 _ (0,0) _ (HS2.out.get 0 rfl) Tryd.underlying30 rfl FU.out ?_)|((with_reducible show Calls _ 6 _ _ _);go_at_call 6; refine (yj.out _ HS2.out.below).mono ?_;rintro e w3 ⟨v3,rfl,ho,hb⟩;have yR:=acD (HS2.out.kept hb);have HO1_2:=acD (HO1_1.out.below hb);clear HO1_1;have HO2_2:=acD ho;clear ho hb))
 (try simp only [World.size_alloc,Act.put,sA,sZ,sS])
 go_upto_region 7 with (first|((with_reducible refine aS 35 ?_);refine wpList_load_row rfl 30 _ rfl (w.heap.size) rfl 30 _ (0,0) _ (yR.out.get 0 rfl) Tryd.underlying30 rfl FU.out ?_)|((with_reducible show Calls _ 11 _ _ _);go_at_call 11; refine (Cx.out _ yR.out.below).mono ?_;rintro e w4 ⟨v4,rfl,ho,hb⟩;have Cv:=acD (yR.out.kept hb);have HO1_3:=acD (HO1_2.out.below hb);have HO2_3:=acD (HO2_2.out.below hb);clear HO1_2;clear HO2_2;have HO3_3:=acD ho;clear ho hb))
 (try simp only [World.size_alloc,Act.put,sA,sZ,sS])
 go_upto_region 8 with (first|((with_reducible refine aS 40 ?_);refine wpList_load_row rfl 30 _ rfl (w.heap.size) rfl 30 _ (0,0) _ (Cv.out.get 0 rfl) Tryd.underlying30 rfl FU.out ?_)|((with_reducible show Calls _ 12 _ _ _);go_at_call 12; refine (HP4.out _ Cv.out.below).mono ?_;rintro e w5 ⟨v5,rfl,ho,hb⟩;have UA:=acD (Cv.out.kept hb);have HO1_4:=acD (HO1_3.out.below hb);have HO2_4:=acD (HO2_3.out.below hb);have HO3_4:=acD (HO3_3.out.below hb);clear HO1_3;clear HO2_3;clear HO3_3;have HO4_4:=acD ho;clear ho hb))
 (try simp only [World.size_alloc,Act.put,sA,sZ,sS])
 have cv1:=HO1_4.out.str
 rw [HST.out] at cv1
 have cv2:=HO2_4.out.str
 rw [HST.out] at cv2
 have cv3:=HO3_4.out.str
 rw [HST.out] at cv3
 have cv4:=HO4_4.out.str
 rw [HST.out] at cv4
 go_wp2_with ((with_reducible show Calls _ 8 _ _ _);go_at_call 8; refine (NC.out _ _).mono ?_;rintro e w' ⟨rfl,rfl⟩)
 all_goals (try simp only [Exit.then])
 go_ret
 exact ⟨rfl,UA.out.below⟩
theorem KC {ro ks gs ss ws:List Int} (v b i:Int) (sw:Option Addr) (cw:Nat) (w:World) (h1:ro.length=32) (h2:ks.length=32) (h3:gs.length=64) (h4:ss.length=64) (hws:Src w sw 80 ws) (hT:Ms.oU w) (hm:gq v b 80 i=true) (b1:bytes ro) (b2:bytes ks) (b3:bytes gs) (b4:bytes ss) (b5:bytes ws) :
  Calls Tryd.prog 4 #[.agg (aZ v b ro (.slice sw 80 cw) i ks gs ss)] w fun e w'=>e = .returned (.bool true)∧Below w.heap.size w w':=by
 have hwl:=hws.len
 have hal:=fun (u:World) (h:Ms.oU u)=>qE u h
 have Am:=iq (v:=v) (b:=b) (i:=i) (ks:=ks) (gs:=gs) (ss:=ss) (wv := .slice sw 80 cw) h1
 have hsi:(Tryd.prog.info? 30).map (·.size)=some (aZ v b ro (.slice sw 80 cw) i ks gs ss).size:=by rw [bK h1 h2 h3 h4];exact eD
 have hp1:=fun (u:World) (k:Below w.heap.size w u)=>Ih (ro:=ro) (ks:=ks) (gs:=gs) (ss:=ss) v b i sw 80 cw u h1 h2 h3 h4 (hws.below k)
 have hp2:=fun (u:World) (k:Below w.heap.size w u)=>vF (ro:=ro) (ks:=ks) (gs:=gs) (ss:=ss) v b i sw 80 cw u h1 h2 h3 h4 (hws.below k)
 have hp3:=fun (u:World) (k:Below w.heap.size w u)=>Bc (ro:=ro) (ks:=ks) (gs:=gs) (ss:=ss) v b i sw 80 cw u h1 h2 h3 h4 (hws.below k)
 have hp4:=fun (u:World) (k:Below w.heap.size w u)=>qJ (ro:=ro) (ks:=ks) (gs:=gs) (ss:=ss) v b i sw 80 cw u h1 h2 h3 h4 (hws.below k)
 simp only [hm,if_true] at hp1 hp2 hp3 hp4
 have hrp:=fun (sa:Option Addr) (n c:Nat) (u:World)=>R3 (v:=v) (b:=b) (i:=i) sa n c u h1 h2 h3 h4 hwl hm b1 b2 b3 b4 b5
 have hbX:bytes (bV v b ro ws i ks gs ++ ss):=gX (sD b1 b2 b3 b5) b4
 have hlX:(bV v b ro ws i ks gs ++ ss).length=300:=by rw [acE,qD h1 h2 h3 hwl,h4]
 have hlP:(bV v b ro ws i ks gs).length=236:=qD h1 h2 h3 hwl
 have hsm:=fun (s1 s2:Option Addr) (c1 c2:Nat) (u:World)=>pJ (ro:=ro) (ks:=ks) (gs:=gs) (ss:=ss) (ws:=ws) v b i s1 s2 80 c1 c2 u h1 h2 h3 h4
 have hmc:=fun (wv:Value)=>(⟨bK (v:=v) (b:=b) (i:=i) (wv:=wv) h1 h2 h3 h4,fun ho=>jo (v:=v) (b:=b) (i:=i) (ro:=ro) (ks:=ks) (gs:=gs) (ss:=ss) ho⟩:(aZ v b ro wv i ks gs ss).size=196∧(wv.oneCell'=true→(aZ v b ro wv i ks gs ss).all (·.oneCell')=true))
 generalize bV v b ro ws i ks gs ++ ss=X at hp1 hp2 hrp hbX hlX
 generalize bV v b ro ws i ks gs=P at hp3 hp4 hlP
 have hnm:=fun (u:World) (g c:Nat) (h:Src u (some ⟨g,0,none⟩) 300 X) (hc:300≤c)=>Wy (some ⟨g,0,none⟩) 300 c X u h hc hbX (by decide)
 have hsh:=fun (u:World) (g c:Nat) (h:Src u (some ⟨g,0,none⟩) 300 X) (ht:Ms.oU u)=>Ha.jL (some ⟨g,0,none⟩) 300 c X u h hbX (by decide) ht.a
 have hkl:(Ha.hash X).length=32:=Ha.dS _
 generalize Ha.hash X=K at hnm hsh hkl
 obtain ⟨MF,hMF⟩:∃ f:Value→Array Value,f=fun wv=>aZ v b ro wv i ks gs ss:=⟨_,rfl⟩
 have hMF':∀ wv,aZ v b ro wv i ks gs ss=MF wv:=fun wv=>by rw [hMF]
 simp only [hMF'] at hp1 hp2 hp3 hp4 hrp hsm hmc Am hsi ⊢
 have hz:=fun w=>mI w
 have hzs:=DF
 generalize iI=Z at hz hzs
 obtain ⟨S,hS⟩:∃ S,S=strOfNums X:=⟨_,rfl⟩
 have hSS:(S.toList == S.toList)=true:=by simp
 have HST:Hid (strOfNums X=S):=acD hS.symm
 obtain ⟨S2,hS2⟩:∃ S,S=strOfNums P:=⟨_,rfl⟩
 have hSS2:(S2.toList == S2.toList)=true:=by simp
 have Ny:Hid (strOfNums P=S2):=acD hS2.symm
 have HAL:=acD hal
 have qG:=acD Am
 have FU:=acD hsi
 have HP1:=acD hp1
 have yj:=acD hp2
 have Cx:=acD hp3
 have HP4:=acD hp4
 have HRP:=acD hrp
 have HSM:=acD hsm
 have HMC:=acD hmc
 have HNM:=acD hnm
 have HSH:=acD hsh
 have HEN:=acD (fun w=>Qq K hkl w)
 have HZ:=acD hz
 have HZN:=acD hzs
 have rE:=acD hwl
 have HWS:=acD hws
 have iK:=acD hlX
 have Em:=acD hlP
 have HT:=acD hT
 have NC:=acD (fun (e:Int) (u:World)=>vH e u)
 have bQ:=acD (bM.one w (MF (.slice sw 80 cw)) 30)
 clear hal Am hsi hT h1 h2 h3 h4 hws hp1 hp2 hp3 hp4 hm hS hS2 hrp hsm hmc hnm hsh hkl hz hzs hwl hlX hlP hbX hMF hMF' b1 b2 b3 b4 b5
 go_enter Tryd.func4, Tryd.ntmps4
 go_upto_region 2 with ((with_reducible show Calls _ 5 _ _ _);go_at_call 5; refine lC (HAL.out _ (HT.out.below bQ.out.below)) bQ ?_;intro w1 iO)
 (try simp only [World.size_alloc,Act.put,sA,sZ,sS])
 have c0:w1.cell? ⟨w.heap.size,34,none⟩=some (.slice sw 80 cw):=by rw [aF (iO.out.get 0 rfl)];exact qG.out
 go_upto_region 4 with fail
 (try simp only [World.size_alloc,Act.put,sA,sZ,sS])
 clear c0
 go_upto_region 5 with (first|((with_reducible refine aS 25 ?_);refine wpList_load_row rfl 30 _ rfl (w.heap.size) rfl 30 _ (0,0) _ (iO.out.get 0 rfl) Tryd.underlying30 rfl FU.out ?_)|((with_reducible show Calls _ 10 _ _ _);go_at_call 10; refine (HP1.out _ iO.out.below).mono ?_;rintro e w2 ⟨v2,rfl,ho,hb⟩;obtain ⟨g1,cx1,cur1,rfl,hcx,hB,hS⟩:=iO.out.own ho hb (by rw [iK.out];decide);rw [iK.out] at hcx hS ⊢; have HS2:=acD hB;have Uf:=acD hS;have yX:=acD hcx;clear ho hb hB hS hcx))
 (try simp only [World.size_alloc,Act.put,sA,sZ,sS])
 go_upto_region 6 with (first|((with_reducible refine aS 30 ?_);refine wpList_load_row rfl 30 _ rfl (w.heap.size) rfl 30 _ (0,0) _ (HS2.out.get 0 rfl) Tryd.underlying30 rfl FU.out ?_)|((with_reducible show Calls _ 6 _ _ _);go_at_call 6; refine (yj.out _ HS2.out.below).mono ?_;rintro e w3 ⟨v3,rfl,ho,hb⟩;obtain ⟨g2,cx2,cur2,rfl,hcx,hB,hS⟩:=HS2.out.own ho hb (by rw [iK.out];decide);rw [iK.out] at hcx hS ⊢; have yR:=acD hB;have HX2:=acD hS;have Og:=acD hcx;clear ho hb hB hS hcx))
 (try simp only [World.size_alloc,Act.put,sA,sZ,sS])
 go_upto_region 7 with (first|((with_reducible refine aS 35 ?_);refine wpList_load_row rfl 30 _ rfl (w.heap.size) rfl 30 _ (0,0) _ (yR.out.get 0 rfl) Tryd.underlying30 rfl FU.out ?_)|((with_reducible show Calls _ 11 _ _ _);go_at_call 11; refine (Cx.out _ yR.out.below).mono ?_;rintro e w4 ⟨v4,rfl,ho,hb⟩;obtain ⟨g3,cx3,cur3,rfl,hcx,hB,hS⟩:=yR.out.own ho hb (by rw [Em.out];decide);rw [Em.out] at hcx hS ⊢; have Cv:=acD hB;have HX3:=acD hS;have HC3:=acD hcx;clear ho hb hB hS hcx))
 (try simp only [World.size_alloc,Act.put,sA,sZ,sS])
 go_upto_region 8 with (first|((with_reducible refine aS 40 ?_);refine wpList_load_row rfl 30 _ rfl (w.heap.size) rfl 30 _ (0,0) _ (Cv.out.get 0 rfl) Tryd.underlying30 rfl FU.out ?_)|((with_reducible show Calls _ 12 _ _ _);go_at_call 12; refine (HP4.out _ Cv.out.below).mono ?_;rintro e w5 ⟨v5,rfl,ho,hb⟩;obtain ⟨g4,cx4,cur4,rfl,hcx,hB,hS⟩:=Cv.out.own ho hb (by rw [Em.out];decide);rw [Em.out] at hcx hS ⊢; have UA:=acD hB;have HX4:=acD hS;have HC4:=acD hcx;clear ho hb hB hS hcx))
 (try simp only [World.size_alloc,Act.put,sA,sZ,sS])
 have cv1:=lu (c:=cx1) (Uf.out _ (UA.out.get 1 rfl))
 rw [HST.out] at cv1
 have cv2:=lu (c:=cx2) (HX2.out _ (UA.out.get 2 rfl))
 rw [HST.out] at cv2
 have cv3:=lu (c:=cx3) (HX3.out _ (UA.out.get 3 rfl))
 rw [Ny.out] at cv3
 have cv4:=lu (c:=cx4) (HX4.out _ (UA.out.get 4 rfl))
 rw [Ny.out] at cv4
 go_upto_region 12 with ((with_reducible show Calls _ 8 _ _ _);go_at_call 8; refine (NC.out _ _).mono ?_;rintro e w' ⟨rfl,rfl⟩)
 (try simp only [World.size_alloc,Act.put,sA,sZ,sS])
 clear cv1 cv2 cv3 cv4 hSS hSS2
 go_upto_region 13 with (first|((with_reducible show Calls _ 7 _ _ _);go_at_call 7; refine (HRP.out _ _ _ _ (Uf.out _ (UA.out.get 1 rfl))).mono ?_;rintro e w6 ⟨s55,c55,rfl,ho,hb⟩;obtain ⟨g55,c56,cur55,he,hcx,hB,hS⟩:=UA.out.own ho hb (by rw [rE.out];decide);rw [rE.out] at he hS;injection he with e1 e2 e3;subst e1 e3;have HS6:=acD hB;have HW2:=acD hS;clear ho hb hB hS hcx e2;have HMS2:Hid ((MF (.slice (some ⟨g55,0,none⟩) 80 c55)).size=Z.size):=acD (by rw [(HMC.out _).1,HZN.out]);have HMI2:Hid ((Tryd.prog.info? 30).map (·.size)=some (MF (.slice (some ⟨g55,0,none⟩) 80 c55)).size):=acD (by rw [(HMC.out _).1];exact eD);have HMO2:=acD ((HMC.out (.slice (some ⟨g55,0,none⟩) 80 c55)).2 rfl))|((with_reducible refine aS 12 ?_);refine lA rfl rfl (HZ.out _) HS6 ?_;intro g12 w7 Ui)|((with_reducible refine aT 12 ?_);refine lS rfl rfl Ui 6 rfl rfl rfl HMS2.out HMI2.out HMO2.out ?_;intro w8 Uz))
 (try simp only [World.size_alloc,Act.put,sA,sZ,sS])
 go_wp2_with (first|((with_reducible show Calls _ 8 _ _ _);go_at_call 8; refine (NC.out _ _).mono ?_;rintro e w' ⟨rfl,rfl⟩)|((with_reducible refine aS 79 ?_);refine eX (by rfl) 30 _ rfl (g12) rfl _ _ (0,0) _ (Uz.out.get 6 rfl) Tryd.underlying30 rfl HMI2.out ?_)|((with_reducible refine aS 80 ?_);refine eX (by rfl) 30 _ rfl (w.heap.size) rfl _ _ (0,0) _ (Uz.out.get 0 rfl) Tryd.underlying30 rfl FU.out ?_)|((with_reducible show Calls _ 9 _ _ _);go_at_call 9; refine lC (HSM.out _ _ _ _ _ (HW2.out _ (Uz.out.get 5 rfl)) (HWS.out.below Uz.out.below)) Uz ?_;intro w9 HS9)|((with_reducible show Calls _ 13 _ _ _);go_at_call 13; refine lC (HNM.out _ _ _ (Uf.out _ (HS9.out.get 1 rfl)) yX.out) HS9 ?_;intro Us HS10)|((with_reducible show Calls _ 14 _ _ _);go_at_call 14; refine lC (HSH.out _ _ _ (Uf.out _ (HS10.out.get 1 rfl)) (HT.out.below HS10.out.below)) HS10 ?_;intro w11 HS11)|((with_reducible refine aS 88 ?_);refine G7 (by rfl) (.bool true) (qV (x := .tmp 85) (y := .tmp 87) rfl abA rfl HEN.out _) ?_))
 all_goals (try simp only [Exit.then])
 go_ret
 exact ⟨rfl,HS11.out.below⟩
theorem KD {ro ks gs ss ws:List Int} (v b i:Int) (sw:Option Addr) (nw cw:Nat) (w:World) (hl:ro.length=32∧ks.length=32∧gs.length=64∧ss.length=64) (hb:bytes ro∧bytes ks∧bytes gs∧bytes ss) (hws:Src w sw nw ws∧bytes ws∧nw≤cw) (hT:Ms.oU w) :
  Calls Tryd.prog 4 #[.agg (aZ v b ro (.slice sw nw cw) i ks gs ss)] w fun e w'=>e = .returned (.bool true)∧Below w.heap.size w w':=by
 obtain ⟨h1,h2,h3,h4⟩:=hl
 obtain ⟨b1,b2,b3,b4⟩:=hb
 by_cases h:(300:Int) < (nw:Int)
 ·exact KA v b i sw nw cw w h1 h2 h3 h4 hws.1 hT h
 ·cases hm:gq v b nw i with
  | false=>exact Wl v b i sw nw cw w h1 h2 h3 h4 hws.1 hT hm h
  | true =>
   have hn:nw=80:=by
    unfold gq at hm
    simp only [Bool.and_eq_true,decide_eq_true_eq] at hm
    exact hm.1.2
   subst hn
   exact KC v b i sw cw w h1 h2 h3 h4 hws.1 hT hm b1 b2 b3 b4 hws.2.1
end Go.Proofs.YthdgbgleklkaiaaDoor.Mf
