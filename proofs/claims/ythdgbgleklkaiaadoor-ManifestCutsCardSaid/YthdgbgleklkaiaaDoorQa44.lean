/- The document's (Set).Manifest: portcullislaw17.alive: portcullislaw17.ManifestCuts. Condition: as each theorem says. -/

import Derived.Test.YthdgbgleklkaiaaDoorQa21
import Derived.Test.YthdgbgleklkaiaaDoorQa23
import Derived.Test.YthdgbgleklkaiaaDoorQa33
import Derived.Test.YthdgbgleklkaiaaDoorQa35
import Derived.Test.YthdgbgleklkaiaaDoorQa41
import Derived.Test.YthdgbgleklkaiaaDoorQa42
import Derived.Test.YthdgbgleklkaiaaDoorQa43
set_option linter.unusedSimpArgs false
set_option linter.unusedVariables false
set_option maxRecDepth 100000
set_option maxHeartbeats 16000000
namespace Go.Proofs.YthdgbgleklkaiaaDoor.Ms
open Go.RowKit Lm Fp Cu Sl Sc Ce Mf Wr
structure lY (w:World):Prop extends TabV w where
 a:Ha.eB w
theorem lY.below {u u':World} (h:lY u) (b:Below u.heap.size u u'):lY u':=⟨h.toTabV.below b,Ha.eB.kept h.a (Kept.of_below (T:=fun _=>False) b) (fun h=>h)⟩
def yV (k1:List Int):Nat:=xC (eY k1)
def qI (k0 k1:List Int) (id:Int):List Int:=ko (eY k0) (nY id (yV k1))
def wsV (k2 K:List Int):List Int:=Bt (bV (eY k2) 9) (eY (Ha.hash K)) K
def Df (k0 k1 k2 K R:List Int) (id v b:Int):List Int:=dF v b R (wsV k2 K) id (n32 (yV k1)) (qI k0 k1 id)
def qC (k0 k1 k2 K R:List Int) (id v b:Int):List Int:=Df k0 k1 k2 K R id v b ++ ko (eY k1) (Df k0 k1 k2 K R id v b)
theorem zB {xs:List Int} (h:bytes xs) (hl:xs.length=32):Mt xs (eY xs):=⟨(tH h hl).symm,by have:=xU h;rwa [hl] at this⟩
theorem Dv (k2 K:List Int) (h:K.length=32):wsV k2 K=n32 (bV (eY (Ha.hash K)) 9) ++ sealed (bV (eY k2) 9) (eY (Ha.hash K)) K∧Qj (bV (eY k2) 9) (eY (Ha.hash K))=0:=by
 have:=Ed.x_ne (eY k2) (eY (Ha.hash K))
 exact ⟨by rw [wsV,Bt,if_neg this],by rw [Qj,if_neg this]⟩
theorem NY (k2 K:List Int) (h:K.length=32):(wsV k2 K).length=80:=by
 rw [(Dv k2 K h).1,List.length_append,bW,yO _ _ _ h]
theorem OL {v b i:Int} (hv:0≤v∧v≤2147483647) (hb:1≤b∧b≤32) (hi:0≤i∧i≤2147483647):iJ v b 80 i=true:=by
 simp [iJ,xu,hv.1,hv.2,hb.1,hb.2,hi.1,hi.2]
theorem D8 {n:Nat} (h:n≤2048):1≤gT n∧gT n≤32:=by unfold gT;split <;> omega
theorem Uu {k0 k1 k2 k3 xs R:List Int} (id v:Int) (sp:Option Addr) (n cp:Nat) (w:World) (h0:k0.length=32) (h1:k1.length=32) (h2:k2.length=32) (h3:k3.length=32)
  (b0:bytes k0) (b1:bytes k1) (b2:bytes k2) (b3:bytes k3) (hs:Src w sp n xs) (kc:n≤cp) (hn:n≤2048) (hi:0≤id∧id≤2147483647) (hv:0≤v∧v≤2147483647) (hT:lY w)
  (hR:R.length=32) (bR:bytes R)
  (hRT:∀ u s c,lY u→qD u s (gT n) (Im.oM (iP k3 v) v xs (gT n))→Calls Tryd.prog 38 #[.slice s (gT n) c] u fun e w'=>e = .returned (.agg (arr .u8 R))∧Below u.heap.size u w') :
  Calls Tryd.prog 16 #[.agg (kT k0 k1 k2 k3), .int .i64 id, .int .i64 v, .slice sp n cp] w fun e w'=>∃ xv lv,e = .returned (.tuple #[xv,lv, .int .i64 0])∧aV w' w.heap.size xv (qC k0 k1 k2 (iP k3 v) R id v (gT n))∧dS w' w.heap.size lv (Im.oM (iP k3 v) v xs (gT n))∧Below w.heap.size w w':=by
 have hT':∀ u,Below w.heap.size w u→lY u:=fun u k=>hT.below k
 have hKl:=zA k3 v
 have hKb:bytes (iP k3 v):=eP _
 have hLl:=Im.uV (iP k3 v) v xs (gT n)
 have hnb:=D8 hn
 have hmay:=OL (b:=(gT n:Int)) hv ⟨by omega,by omega⟩ hi
 have hwl:=NY k2 _ hKl
 have hgl:(qI k0 k1 id).length=64:=gN _ _
 have hgb:bytes (qI k0 k1 id):=pF _ _
 have hok:xu id=true:=by simp [xu,hi.1,hi.2]
 have hmk:=fun u (k:Below w.heap.size w u)=>Im.QE (iP k3 v) xs v sp n cp u hKl hKb (hs.below k) kc hn hv
 have hwb:bytes (wsV k2 (iP k3 v)):=by
  rw [(Dv k2 _ hKl).1]
  exact gq (eH _) (Ae.rA _ _ _ _)
 have hdk:=zB (eP (iP k3 v)) (Ha.dZ _)
 have hx:bV (eY k2) 9 < 256 ^ 32:=Nat.lt_trans (uO _ _) (by decide +kernel)
 have key:=QD (k0:=k0) (k1:=k1) (k2:=k2) (k3:=k3) (K:=iP k3 v) (pk:=n32 (yV k1)) (tk:=n32 (bV (eY k2) 9)) (dk:=Ha.hash (iP k3 v)) (ws:=wsV k2 (iP k3 v)) (R:=R) (sg:=qI k0 k1 id)
  (CC:=dh id (n32 (yV k1)) (qI k0 k1 id)) (L:=Im.oM (iP k3 v) v xs (gT n)) id v sp n cp w h0 h1 h2 h3 hKl (jD hgl (bW _)) (vD _ _ _)
  (fun u k=>Rf v u h0 h1 h2 h3 b3 (by omega) (hT' u k).a)
  (fun u k=>hmk u k)
  (fun u k=>by
   rw [show arr .u8 k1=arr .u8 (n32 (eY k1)) by rw [tH b1 h1]]
   exact Rd.wK (eY k1) u (hT' u k).d (hT' u k).x (hT' u k).y (hT' u k).k)
  (fun u k=>by
   have:=Bv (rs:=k0) (ks:=n32 (yV k1)) (eY k0) (yV k1) id u (zB b0 h0) ⟨rfl,epub_lt _⟩ (hT' u k).toTabV
   rwa [Zp,if_pos hok,if_pos (show (iQ (yV k1)).isSome=true from Ed.may_pub (eY k1))] at this)
  (fun u k=>by
   rw [show arr .u8 k2=arr .u8 (n32 (eY k2)) by rw [tH b2 h2]]
   exact Rd.GY (eY k2) u (by have:=xU b2;rwa [h2,show (256:Nat) ^ 32=2 ^ 256 by decide] at this))
  (fun u g k hs=>Ha.kE _ 32 32 _ u hs hKb (by decide) (hT' u k).a)
  (fun u k=>by
   have:=Qv (ts:=n32 (bV (eY k2) 9)) (ds:=Ha.hash (iP k3 v)) (xs:=iP k3 v) (bV (eY k2) 9) (eY (Ha.hash (iP k3 v))) u ⟨rfl,hx⟩ hdk hKl hKb (hT' u k).a
   rw [(Dv k2 _ hKl).2] at this
   have e:Bt (bV (eY k2) 9) (eY (Ha.hash (iP k3 v))) (iP k3 v)=wsV k2 (iP k3 v):=rfl
   rwa [e,hwl] at this)
  (fun s c=>aZ v (gT n) R (.slice s 80 c) id (n32 (yV k1)) (qI k0 k1 id) z64)
  (fun s c=>aZ v (gT n) R (.slice s 80 c) id (n32 (yV k1)) (qI k0 k1 id) (ko (eY k1) (Df k0 k1 k2 (iP k3 v) R id v (gT n))))
  (qC k0 k1 k2 (iP k3 v) R id v (gT n))
  (fun s c=>⟨bL hR (bW _) hgl (gN _ _),iO rfl⟩)
  (fun u s c=>by rw [hLl];exact Ma v (gT n) id s 80 c hR (bW _) hgl u)
  (fun u s c k h=>by
   rw [hLl] at h ⊢
   exact hRT u s c (hT' u k) h)
  (fun u s c k h=>by
   have hz:(z64:List Int).length=64:=rfl
   refine (JC (eY k1) v (gT n) id s 80 c u (zB b1 h1) hR (bW _) hgl hz h bR (eH _) hgb hwb (hT' u k).toTabV.s).mono ?_
   rintro e w' ⟨M,E,rfl,h|h,hb⟩
   ·obtain ⟨-, rfl,s2,c2,rfl,ho⟩:=h
    exact ⟨s2,c2,rfl,ho,hb⟩
   ·exact absurd (hmay.symm.trans h.1) (by decide))
  (fun u s c k h=>by
   have:=kL (ro:=R) (ks:=n32 (yV k1)) (gs:=qI k0 k1 id) (ss:=ko (eY k1) (Df k0 k1 k2 (iP k3 v) R id v (gT n))) v (gT n) id s 80 c u hR (bW _) hgl (gN _ _) h
   rwa [if_pos hmay,if_pos hmay] at this)
 exact key
def Oj (k3 xs:List Int) (v:Int):List Int:=Gw (Im.lU (iP k3 v) v xs 0)
theorem Ut {k0 k1 k2 k3 xs:List Int} (id v:Int) (sp:Option Addr) (n cp:Nat) (w:World) (h0:k0.length=32) (h1:k1.length=32) (h2:k2.length=32) (h3:k3.length=32)
  (b0:bytes k0) (b1:bytes k1) (b2:bytes k2) (b3:bytes k3) (hs:Src w sp n xs) (kc:n≤cp) (hn:n≤64) (hi:0≤id∧id≤2147483647) (hv:0≤v∧v≤2147483647) (hT:lY w) :
  Calls Tryd.prog 16 #[.agg (kT k0 k1 k2 k3), .int .i64 id, .int .i64 v, .slice sp n cp] w fun e w'=>∃ xv lv,e = .returned (.tuple #[xv,lv, .int .i64 0])∧aV w' w.heap.size xv (qC k0 k1 k2 (iP k3 v) (Oj k3 xs v) id v 1)∧dS w' w.heap.size lv [Im.lU (iP k3 v) v xs 0]∧Below w.heap.size w w':=by
 have hnb:gT n=1:=by unfold gT;split <;> omega
 have:=Uu (R:=Oj k3 xs v) id v sp n cp w h0 h1 h2 h3 b0 b1 b2 b3 hs kc (by omega) hi hv hT (Ha.dZ _) (eP _) (fun u s c ht h=>by
  rw [hnb] at h ⊢
  exact QA s c (Im.lU (iP k3 v) v xs 0) u h (Ae.rA _ _ _ _) (by rw [Im.yP];decide) ht.a)
 rw [hnb] at this
 exact this
end Go.Proofs.YthdgbgleklkaiaaDoor.Ms
namespace Go.Proofs.YthdgbgleklkaiaaDoor.Mf
open Go.RowKit Lm Fp Cu Sl Sc Ce
theorem DW (sa:Option Addr) (n c:Nat) (xs:List Int) (w:World) (hs:Src w sa n xs) (hx:bytes xs) (hn:n≤1099511627776) (h:SG xs=false) :
  Calls Tryd.prog 7 #[.slice sa n c] w fun e w'=>e = .returned (.tuple #[.agg gU, .int .i64 4])∧Below w.heap.size w w':=by
 refine (tC sa n c xs w hs hx hn).mono ?_
 rintro e w' ⟨M,E,rfl,k|k,hb⟩
 ·exact absurd (h.symm.trans k.1) (by decide)
 ·obtain ⟨-, rfl,rfl⟩:=k
  exact ⟨rfl,hb⟩
theorem Ow (sa:Option Addr) (n c:Nat) (xs:List Int) (w:World) (hs:Src w sa n xs) (hx:bytes xs) (hn:n≤1099511627776) (h:SG xs=true) :
  Calls Tryd.prog 7 #[.slice sa n c] w fun e w'=>∃ sw cw,e = .returned (.tuple #[.agg (aZ (fv xs) (fb xs) (Jb xs) (.slice sw (fws xs).length cw) (fi xs) (H9 xs) (Ia xs) (Hw xs)), .int .i64 0])∧aV w' w.heap.size (.slice sw (fws xs).length cw) (fws xs)∧Below w.heap.size w w':=by
 refine (tC sa n c xs w hs hx hn).mono ?_
 rintro e w' ⟨M,E,rfl,k|k,hb⟩
 ·obtain ⟨-, rfl,sw,cw,rfl,ho⟩:=k
  exact ⟨sw,cw,rfl,ho,hb⟩
 ·exact absurd (h.symm.trans k.1) (by decide)
theorem Cw:gU.size=196:=bL (by simp [z32]) (by simp [z32]) (by simp [z64]) (by simp [z64])
theorem rC {v b i:Int} {ro ws ks gs:List Int} (b1:bytes ro) (b2:bytes ks) (b3:bytes gs) (b4:bytes ws):bytes (dF v b ro ws i ks gs):=by
 unfold dF
 intro x hx
 rcases List.mem_append.1 hx with hx|hx
 ·rcases List.mem_append.1 hx with hx|hx
  ·refine jN ?_ x hx
   intro y hy
   rcases List.mem_append.1 hy with hy|hy
   ·rcases List.mem_append.1 hy with hy|hy
    ·exact jN (by unfold bytes;decide) y hy
    ·exact b1 y hy
   ·exact b4 y hy
  ·exact b2 x hx
 ·exact b3 x hx
theorem Qg (k2 K:List Int) (h:K.length=32):bytes (Ms.wsV k2 K):=by
 rw [(Ms.Dv k2 _ h).1]
 exact gq (eH _) (Ae.rA _ _ _ _)
theorem manW_ok {k0 k1 k2 K R:List Int} {id v b:Int} (hK:K.length=32) (hR:R.length=32) (bR:bytes R) (hv:0≤v∧v≤2147483647) (hb:1≤b∧b≤32) (hi:0≤id∧id≤2147483647) :
  bytes (Ms.qC k0 k1 k2 K R id v b)∧(Ms.qC k0 k1 k2 K R id v b).length=300∧SG (Ms.qC k0 k1 k2 K R id v b)=true∧fv (Ms.qC k0 k1 k2 K R id v b)=v∧fb (Ms.qC k0 k1 k2 K R id v b)=b∧Jb (Ms.qC k0 k1 k2 K R id v b)=R∧fws (Ms.qC k0 k1 k2 K R id v b)=Ms.wsV k2 K∧fi (Ms.qC k0 k1 k2 K R id v b)=id∧H9 (Ms.qC k0 k1 k2 K R id v b)=n32 (Ms.yV k1)∧Ia (Ms.qC k0 k1 k2 K R id v b)=Ms.qI k0 k1 id∧Hw (Ms.qC k0 k1 k2 K R id v b)=ko (eY k1) (Ms.Df k0 k1 k2 K R id v b):=by
 have hg:(Ms.qI k0 k1 id).length=64:=gN _ _
 have hw:=Ms.NY k2 K hK
 refine ⟨gq (rC bR (eH _) (pF _ _) (Qg k2 K hK)) (pF _ _),?_,Ib hR (bW _) hg (gN _ _) hw (Ms.OL hv hb hi)⟩
 rw [Ms.qC,List.length_append,Ms.Df,uq hR (bW _) hg hw,gN]
theorem jP (w:World) (hT:Ms.lY w):Calls Tryd.prog 5 #[] w fun e w'=>e = .returned (.bool true)∧Below w.heap.size w w':=by
 have hr1:=fun (u:World)=>DW none 0 0 [] u ⟨rfl,fun i hi=>absurd hi (by omega)⟩ (by intro x hx;cases hx) (by decide) (LA (by decide))
 have hso:=fun (u:World) (h:Ms.lY u)=>Ms.Qt 1 u (by omega) h.a
 have b0:=Wr.eP (jo 1 ++ gQ (Ms.OE 0))
 have b1:=Wr.eP (jo 1 ++ gQ (Ms.OE 1))
 have b2:=Wr.eP (jo 1 ++ gQ (Ms.OE 2))
 have b3:=Wr.eP (jo 1 ++ gQ (Ms.OE 3))
 have hmn:=fun (u:World) (h:Ms.lY u)=>Ms.Ut (k0:=Ms.sec 1 0) (k1:=Ms.sec 1 1) (k2:=Ms.sec 1 2) (k3:=Ms.sec 1 3) (xs:=[]) 1 2 none 0 0 u (Ms.eu 1 0) (Ms.eu 1 1) (Ms.eu 1 2) (Ms.eu 1 3) b0 b1 b2 b3 ⟨rfl,fun i hi=>absurd hi (by omega)⟩ (Nat.le_refl _) (by decide) (by decide) (by decide) h
 have hok:=manW_ok (k0:=Ms.sec 1 0) (k1:=Ms.sec 1 1) (k2:=Ms.sec 1 2) (K:=Ms.iP (Ms.sec 1 3) 2) (R:=Ms.Oj (Ms.sec 1 3) [] 2) (id:=1) (v:=2) (b:=1) (Ms.zA _ _) (Ha.dZ _) (Wr.eP _) (by decide) (by decide) (by decide)
 generalize Ms.qC (Ms.sec 1 0) (Ms.sec 1 1) (Ms.sec 1 2) (Ms.iP (Ms.sec 1 3) 2) (Ms.Oj (Ms.sec 1 3) [] 2) 1 2 1=X at hmn hok
 generalize Im.lU (Ms.iP (Ms.sec 1 3) 2) 2 [] 0=Y at hmn
 generalize Ms.kT (Ms.sec 1 0) (Ms.sec 1 1) (Ms.sec 1 2) (Ms.sec 1 3)=SC at hso hmn
 obtain ⟨hXb,hXl,hXo,hXv,hXbl,hXr,hXw,hXi,hXk,hXg,hXs⟩:=hok
 have hr2:=fun (u:World) (sa:Option Addr) (n c:Nat) (h:Src u sa n X)=>Ow sa n c X u h hXb (by have:=h.len;omega) hXo
 have l1:(Jb X).length=32:=by rw [hXr];exact Ha.dZ _
 have l2:(H9 X).length=32:=by rw [hXk];exact bW _
 have l3:(Ia X).length=64:=by rw [hXg];exact gN _ _
 have l4:(Hw X).length=64:=by rw [hXs];exact gN _ _
 have HMC:=Lib.hid (fun (wv:Value) (ho:wv.oneCell'=true)=>(⟨bL (v:=fv X) (b:=fb X) (i:=fi X) (wv:=wv) l1 l2 l3 l4,iO (v:=fv X) (b:=fb X) (i:=fi X) (ro:=Jb X) (ks:=H9 X) (gs:=Ia X) (ss:=Hw X) ho,by rw [uY,hXv],by rw [lW,hXbl]⟩:(aZ (fv X) (fb X) (Jb X) wv (fi X) (H9 X) (Ia X) (Hw X)).size=196∧(aZ (fv X) (fb X) (Jb X) wv (fi X) (H9 X) (Ia X) (Hw X)).all (·.oneCell')=true∧(aZ (fv X) (fb X) (Jb X) wv (fi X) (H9 X) (Ia X) (Hw X))[0]? = some (.int .i64 2)∧(aZ (fv X) (fb X) (Jb X) wv (fi X) (H9 X) (Ia X) (Hw X))[1]? = some (.int .i64 1)))
 have hz:=fun w=>mo w
 obtain ⟨Z,hZ⟩:∃ c,c=gU:=⟨_,rfl⟩
 have hzs:=Cw
 have hzo:gU.all (·.oneCell')=true:=iO rfl
 rw [← hZ] at hr1 hz hzs hzo
 have HR1:=Lib.hid hr1
 have HSO:=Lib.hid hso
 have HMN:=Lib.hid hmn
 have HR2:=Lib.hid hr2
 have HZ:=Lib.hid hz
 have HZS:=Lib.hid hzs
 have Pn:Hid ((Tryd.prog.info? 30).map (·.size)=some Z.size):=Lib.hid (by rw [hzs];exact dH)
 have HZO:=Lib.hid hzo
 have HT:=Lib.hid hT
 have HNUM:=Lib.hid (fun (e:Int) (u:World)=>uX e u)
 have bN:=Lib.hid (bM.nil w)
 clear hT hr1 hso hmn hr2 hz hzs hzo hZ b0 b1 b2 b3 hXb hXl hXo hXv hXbl hXr hXw hXi hXk hXg hXs l1 l2 l3 l4
 go_enter Tryd.func5, Tryd.ntmps5
 go_upto_region 2 with (first|((with_reducible show Calls _ 7 _ _ _);go_at_call 7; refine (HR1.out w).mono ?_;rintro e w1 ⟨rfl,hb⟩;have gY:=Lib.hid (bN.out.kept hb);clear hb)|((with_reducible refine aS 1 ?_);refine aj rfl 30 rfl _ (HZ.out _) ?_;have HS2:=Lib.hid (gY.out.alloc (Z) 30);generalize w1.heap.size=g1 at HS2 ⊢; generalize w1.alloc (.cells (Z) 30)=w2 at HS2 ⊢)|((with_reducible refine aT 1 ?_);refine ah rfl 30 _ _ rfl (g1) _ _ 30 (HS2.out.get 0 rfl) rfl rfl rfl Pn.out HZO.out ?_;intro w3 hb hk hz;have F3:=Lib.hid (HS2.out.put 0 rfl hk hb);clear hb hk hz))
 (try simp only [World.size_alloc,Act.put,sA,sZ,sS])
 go_upto_region 3 with (first|((with_reducible show Calls _ 15 _ _ _);go_at_call 15; refine (HSO.out _ (HT.out.below F3.out.below)).mono ?_;rintro e w4 ⟨rfl,hb⟩;have EU:=Lib.hid (F3.out.kept hb);clear hb)|((with_reducible show Calls _ 16 _ _ _);go_at_call 16; refine (HMN.out _ (HT.out.below EU.out.below)).mono ?_;rintro e w5 ⟨xv,lv,rfl,ho, -, hb⟩;have SS:=Lib.hid (EU.out.kept hb);obtain ⟨sx,cx,rfl, -, -, hsx, -⟩:=ho.form;have HO:=Lib.hid hsx;clear ho hsx;clear hb))
 (try simp only [World.size_alloc,Act.put,sA,sZ,sS])
 go_upto_region 4 with (first|((with_reducible show Calls _ 7 _ _ _);go_at_call 7; refine (HR2.out _ _ _ _ HO.out).mono ?_;rintro e w6 ⟨sw,cw,rfl, -, hb⟩;have HS6:=Lib.hid (SS.out.kept hb);obtain ⟨MV,hMV⟩:∃ M,M=aZ (fv X) (fb X) (Jb X) (.slice sw (fws X).length cw) (fi X) (H9 X) (Ia X) (Hw X):=⟨_,rfl⟩;have hmc:=HMC.out (.slice sw (fws X).length cw) rfl;rw [← hMV] at hmc ⊢; have Bq:Hid (MV.size=Z.size):=Lib.hid (by rw [hmc.1,HZS.out]);have MG:Hid ((Tryd.prog.info? 30).map (·.size)=some MV.size):=Lib.hid (by rw [hmc.1];exact dH);have HMO:=Lib.hid hmc.2.1;have HM0:=Lib.hid hmc.2.2.1;have F5:=Lib.hid hmc.2.2.2;clear hmc hMV;clear hb)|((with_reducible refine aS 6 ?_);refine aj rfl 30 rfl _ (HZ.out _) ?_;have SQ:=Lib.hid (HS6.out.alloc (Z) 30);generalize w6.heap.size=g6 at SQ ⊢; generalize w6.alloc (.cells (Z) 30)=w7 at SQ ⊢)|((with_reducible refine aT 6 ?_);refine ah rfl 30 _ _ rfl (g6) _ _ 30 (SQ.out.get 1 rfl) rfl rfl Bq.out MG.out HMO.out ?_;intro w8 hb hk hz;have Je:=Lib.hid (SQ.out.put 1 rfl hk hb);clear hb hk hz))
 (try simp only [World.size_alloc,Act.put,sA,sZ,sS])
 refine oI (T:=fun _=>False) (w:=w) (sy:=[Yv (.int .i64 4),Yv (.int .i64 4),Yv (.bool true),Yv (.bool true),Yv (.int .i64 0),Yv (.int .i64 0),Yv (.bool true),Yv (.bool true),Yv (.bool true),Yp g6 0,Yv (.int .i64 2),Yv (.bool true),Yv (.bool true),Yv (.bool true),Yp g6 1,Yv (.int .i64 1),Yv (.bool true),Yv (.bool true),Yv (.bool true)]) (pt:=[]) (by kernel_rfl) (by kernel_rfl) Je.out.holds (fun hW=>?s1) (fun q1 x1 u1 _ hH=>?e1)
 case s1 =>
  refine jw hW ?_
  refine SyD hW ?_ (vs:=[.int .i64 4]) ((fun u _=>(HNUM.out 4 u).mono (by rintro e w' ⟨rfl,rfl⟩;exact ⟨rfl,Below.refl _ _⟩)))
  refine jw hW ?_
  refine jw hW ?_
  refine oG (jw hW ?_)
  refine oG (SyD hW ?_ (vs:=[.int .i64 0]) ((fun u _=>(HNUM.out 0 u).mono (by rintro e w' ⟨rfl,rfl⟩;exact ⟨rfl,Below.refl _ _⟩))))
  refine oG (jw hW ?_)
  refine jw hW ?_
  refine jw hW ?_
  refine oG (jw hW ?_)
  refine oG (Iz hW ?_ 1 0 MV 30 HM0.out (d:=_) rfl Tryd.underlying3)
  refine oG (jw hW ?_)
  refine jw hW ?_
  refine jw hW ?_
  refine oG (jw hW ?_)
  refine oG (Iz hW ?_ 1 1 MV 30 F5.out (d:=_) rfl Tryd.underlying3)
  refine oG (jw hW ?_)
  refine jw hW ?_
  refine jw hW ?_
  exact SyN
 case e1 =>
  have HB1:=Lib.hid (hH.blk [0,1] [(g1,Z, 30),(g6,MV, 30)] (by decide) (by kernel_rfl))
  simp only [lay,Sy.at,BF,Yr,Yv,Yp,Yq,Yn,Y0,Yw,Act.put,sA,sZ,sS,Nat.reduceAdd]
  clear hH Je
  (try simp only [Exit.then])
  go_wp2_with fail
  go_ret
  exact ⟨rfl,HB1.out.below⟩
end Go.Proofs.YthdgbgleklkaiaaDoor.Mf
namespace Go.Proofs.YthdgbgleklkaiaaDoor.Mf
open Go.RowKit Lm Fp Cu Sl Sc Ce
theorem QF {v b i:Int} {ro ws ks gs ss:List Int} (sa:Option Addr) (n c:Nat) (w:World) (h1:ro.length=32) (h2:ks.length=32) (h3:gs.length=64) (h4:ss.length=64) (h5:ws.length=80) (hm:iJ v b 80 i=true)
  (b1:bytes ro) (b2:bytes ks) (b3:bytes gs) (b4:bytes ss) (b5:bytes ws) (hs:Src w sa n (dF v b ro ws i ks gs ++ ss)) :
  Calls Tryd.prog 7 #[.slice sa n c] w fun e w'=>∃ s2 c2,e = .returned (.tuple #[.agg (aZ v b ro (.slice s2 80 c2) i ks gs ss), .int .i64 0])∧aV w' w.heap.size (.slice s2 80 c2) ws∧Below w.heap.size w w':=by
 obtain ⟨e0,e1,e2,e3,e4,e5,e6,e7,e8⟩:=Ib h1 h2 h3 h4 h5 hm
 have hl:(dF v b ro ws i ks gs ++ ss).length=300:=by rw [List.length_append,uq h1 h2 h3 h5,h4]
 have key:=Ow sa n c (dF v b ro ws i ks gs ++ ss) w hs (gq (rC b1 b2 b3 b5) b4) (by have:=hs.len;omega) e0
 rw [e1,e2,e3,e4,e5,e6,e7,e8,h5] at key
 refine key.mono ?_
 rintro e w' ⟨s2,c2,rfl,ho,hb⟩
 exact ⟨s2,c2,rfl,ho,hb⟩
theorem Zh {ro ks gs ss ws:List Int} (v b i cut:Int) (sw sm:Option Addr) (nw cw nm cm:Nat) (w:World) (h1:ro.length=32) (h2:ks.length=32) (h3:gs.length=64) (h4:ss.length=64) (hws:Src w sw nw ws) (hT:Ms.lY w) (hm:iJ v b nw i=false) (h:(300:Int) < (nw:Int)) :
  Calls Tryd.prog 3 #[.agg (aZ v b ro (.slice sw nw cw) i ks gs ss), .int .i64 cut, .slice sm nm cm] w fun e w'=>e = .returned (.bool true)∧Below w.heap.size w w':=by
 have hal:=fun (u:World) (h:Ms.lY u)=>jP u h
 have hp:=fun (u:World) (k:Below w.heap.size w u)=>kL (ro:=ro) (ks:=ks) (gs:=gs) (ss:=ss) v b i sw nw cw u h1 h2 h3 h4 (hws.below k)
 simp only [hm,if_true,if_false,Bool.false_eq_true] at hp
 have nJ:=gI (v:=v) (b:=b) (i:=i) (ks:=ks) (gs:=gs) (ss:=ss) (wv := .slice sw nw cw) h1
 have hsi:(Tryd.prog.info? 30).map (·.size)=some (aZ v b ro (.slice sw nw cw) i ks gs ss).size:=by rw [bL h1 h2 h3 h4];exact dH
 generalize aZ v b ro (.slice sw nw cw) i ks gs ss=M at hp nJ hsi ⊢
 have HAL:=Lib.hid hal
 have HP:=Lib.hid hp
 have pY:=Lib.hid nJ
 have IB:=Lib.hid hsi
 have HT:=Lib.hid hT
 have bN:=Lib.hid (bM.one w M 30)
 clear hal hp nJ hsi hT h1 h2 h3 h4 hws
 go_enter Tryd.func3, Tryd.ntmps3
 go_upto_region 3 with (first|((with_reducible show Calls _ 5 _ _ _);go_at_call 5; refine (HAL.out _ (HT.out.below bN.out.below)).mono ?_;rintro e w1 ⟨rfl,hb1⟩;have gY:=Lib.hid (bN.out.kept hb1);clear hb1)|((with_reducible refine aS 16 ?_);refine wpList_load_row rfl 30 _ rfl (w.heap.size) rfl 30 _ (0,0) _ (gY.out.get 0 rfl) Tryd.underlying30 rfl IB.out ?_)|((with_reducible show Calls _ 6 _ _ _);go_at_call 6; refine (HP.out _ gY.out.below).mono ?_;rintro e w2 ⟨v17,rfl,ho,hb⟩;have HS2:=Lib.hid (gY.out.kept hb);clear ho hb))
 (try simp only [World.size_alloc,Act.put,sA,sZ,sS])
 have c0:w2.cell? ⟨w.heap.size,34,none⟩=some (.slice sw nw cw):=by rw [aG (HS2.out.get 0 rfl)];exact pY.out
 clear hm
 go_wp2_with fail
 (try simp only [Exit.then])
 go_ret
 exact ⟨rfl,HS2.out.below⟩
theorem Zg {ro ks gs ss ws:List Int} (v b i cut:Int) (sw sm:Option Addr) (nw cw nm cm:Nat) (w:World) (h1:ro.length=32) (h2:ks.length=32) (h3:gs.length=64) (h4:ss.length=64) (hws:Src w sw nw ws) (hT:Ms.lY w) (hm:iJ v b nw i=false) (h:¬ (300:Int) < (nw:Int)) :
  Calls Tryd.prog 3 #[.agg (aZ v b ro (.slice sw nw cw) i ks gs ss), .int .i64 cut, .slice sm nm cm] w fun e w'=>e = .returned (.bool true)∧Below w.heap.size w w':=by
 have hal:=fun (u:World) (h:Ms.lY u)=>jP u h
 have hp:=fun (u:World) (k:Below w.heap.size w u)=>kL (ro:=ro) (ks:=ks) (gs:=gs) (ss:=ss) v b i sw nw cw u h1 h2 h3 h4 (hws.below k)
 simp only [hm,if_true,if_false,Bool.false_eq_true] at hp
 have nJ:=gI (v:=v) (b:=b) (i:=i) (ks:=ks) (gs:=gs) (ss:=ss) (wv := .slice sw nw cw) h1
 have hsi:(Tryd.prog.info? 30).map (·.size)=some (aZ v b ro (.slice sw nw cw) i ks gs ss).size:=by rw [bL h1 h2 h3 h4];exact dH
 generalize aZ v b ro (.slice sw nw cw) i ks gs ss=M at hp nJ hsi ⊢
 have HAL:=Lib.hid hal
 have HP:=Lib.hid hp
 have pY:=Lib.hid nJ
 have IB:=Lib.hid hsi
 have HT:=Lib.hid hT
 have bN:=Lib.hid (bM.one w M 30)
 clear hal hp nJ hsi hT h1 h2 h3 h4 hws
 go_enter Tryd.func3, Tryd.ntmps3
 go_upto_region 3 with (first|((with_reducible show Calls _ 5 _ _ _);go_at_call 5; refine (HAL.out _ (HT.out.below bN.out.below)).mono ?_;rintro e w1 ⟨rfl,hb1⟩;have gY:=Lib.hid (bN.out.kept hb1);clear hb1)|((with_reducible refine aS 16 ?_);refine wpList_load_row rfl 30 _ rfl (w.heap.size) rfl 30 _ (0,0) _ (gY.out.get 0 rfl) Tryd.underlying30 rfl IB.out ?_)|((with_reducible show Calls _ 6 _ _ _);go_at_call 6; refine (HP.out _ gY.out.below).mono ?_;rintro e w2 ⟨v17,rfl,ho,hb⟩;have HS2:=Lib.hid (gY.out.kept hb);clear ho hb))
 (try simp only [World.size_alloc,Act.put,sA,sZ,sS])
 have c0:w2.cell? ⟨w.heap.size,34,none⟩=some (.slice sw nw cw):=by rw [aG (HS2.out.get 0 rfl)];exact pY.out
 clear hm
 go_wp2_with fail
 (try simp only [Exit.then])
 go_ret
 exact ⟨rfl,HS2.out.below⟩
theorem Zi {ro ks gs ss ws:List Int} (v b i cut:Int) (sw sm:Option Addr) (nw cw nm cm:Nat) (w:World) (h1:ro.length=32) (h2:ks.length=32) (h3:gs.length=64) (h4:ss.length=64) (hws:Src w sw nw ws) (hT:Ms.lY w) (hm:iJ v b nw i=true) (h:¬ (300:Int) < (nw:Int)) (hc:cut < 0) :
  Calls Tryd.prog 3 #[.agg (aZ v b ro (.slice sw nw cw) i ks gs ss), .int .i64 cut, .slice sm nm cm] w fun e w'=>e = .returned (.bool true)∧Below w.heap.size w w':=by
 have hal:=fun (u:World) (h:Ms.lY u)=>jP u h
 have hp:=fun (u:World) (k:Below w.heap.size w u)=>kL (ro:=ro) (ks:=ks) (gs:=gs) (ss:=ss) v b i sw nw cw u h1 h2 h3 h4 (hws.below k)
 simp only [hm,if_true,if_false,Bool.false_eq_true] at hp
 have nJ:=gI (v:=v) (b:=b) (i:=i) (ks:=ks) (gs:=gs) (ss:=ss) (wv := .slice sw nw cw) h1
 have hsi:(Tryd.prog.info? 30).map (·.size)=some (aZ v b ro (.slice sw nw cw) i ks gs ss).size:=by rw [bL h1 h2 h3 h4];exact dH
 generalize aZ v b ro (.slice sw nw cw) i ks gs ss=M at hp nJ hsi ⊢
 have HAL:=Lib.hid hal
 have HP:=Lib.hid hp
 have pY:=Lib.hid nJ
 have IB:=Lib.hid hsi
 have HT:=Lib.hid hT
 have bN:=Lib.hid (bM.one w M 30)
 clear hal hp nJ hsi hT h1 h2 h3 h4 hws
 go_enter Tryd.func3, Tryd.ntmps3
 go_upto_region 3 with (first|((with_reducible show Calls _ 5 _ _ _);go_at_call 5; refine (HAL.out _ (HT.out.below bN.out.below)).mono ?_;rintro e w1 ⟨rfl,hb1⟩;have gY:=Lib.hid (bN.out.kept hb1);clear hb1)|((with_reducible refine aS 16 ?_);refine wpList_load_row rfl 30 _ rfl (w.heap.size) rfl 30 _ (0,0) _ (gY.out.get 0 rfl) Tryd.underlying30 rfl IB.out ?_)|((with_reducible show Calls _ 6 _ _ _);go_at_call 6; refine (HP.out _ gY.out.below).mono ?_;rintro e w2 ⟨v17,rfl,ho,hb⟩;have HS2:=Lib.hid (gY.out.kept hb);clear ho hb))
 (try simp only [World.size_alloc,Act.put,sA,sZ,sS])
 have c0:w2.cell? ⟨w.heap.size,34,none⟩=some (.slice sw nw cw):=by rw [aG (HS2.out.get 0 rfl)];exact pY.out
 clear hm
 go_wp2_with fail
 (try simp only [Exit.then])
 go_ret
 exact ⟨rfl,HS2.out.below⟩
theorem RF {ro ks gs ss ws:List Int} (v b i cut:Int) (sw sm:Option Addr) (nw cw nm cm:Nat) (w:World) (h1:ro.length=32) (h2:ks.length=32) (h3:gs.length=64) (h4:ss.length=64) (hws:Src w sw nw ws) (hT:Ms.lY w) (hm:iJ v b nw i=true) (h:¬ (300:Int) < (nw:Int)) (hc:¬ cut < 0) (hd:(50:Int) < (nm:Int)) :
  Calls Tryd.prog 3 #[.agg (aZ v b ro (.slice sw nw cw) i ks gs ss), .int .i64 cut, .slice sm nm cm] w fun e w'=>e = .returned (.bool true)∧Below w.heap.size w w':=by
 have hal:=fun (u:World) (h:Ms.lY u)=>jP u h
 have hp:=fun (u:World) (k:Below w.heap.size w u)=>kL (ro:=ro) (ks:=ks) (gs:=gs) (ss:=ss) v b i sw nw cw u h1 h2 h3 h4 (hws.below k)
 simp only [hm,if_true,if_false,Bool.false_eq_true] at hp
 have nJ:=gI (v:=v) (b:=b) (i:=i) (ks:=ks) (gs:=gs) (ss:=ss) (wv := .slice sw nw cw) h1
 have hsi:(Tryd.prog.info? 30).map (·.size)=some (aZ v b ro (.slice sw nw cw) i ks gs ss).size:=by rw [bL h1 h2 h3 h4];exact dH
 generalize aZ v b ro (.slice sw nw cw) i ks gs ss=M at hp nJ hsi ⊢
 have HAL:=Lib.hid hal
 have HP:=Lib.hid hp
 have pY:=Lib.hid nJ
 have IB:=Lib.hid hsi
 have HT:=Lib.hid hT
 have bN:=Lib.hid (bM.one w M 30)
 clear hal hp nJ hsi hT h1 h2 h3 h4 hws
 go_enter Tryd.func3, Tryd.ntmps3
 go_upto_region 3 with (first|((with_reducible show Calls _ 5 _ _ _);go_at_call 5; refine (HAL.out _ (HT.out.below bN.out.below)).mono ?_;rintro e w1 ⟨rfl,hb1⟩;have gY:=Lib.hid (bN.out.kept hb1);clear hb1)|((with_reducible refine aS 16 ?_);refine wpList_load_row rfl 30 _ rfl (w.heap.size) rfl 30 _ (0,0) _ (gY.out.get 0 rfl) Tryd.underlying30 rfl IB.out ?_)|((with_reducible show Calls _ 6 _ _ _);go_at_call 6; refine (HP.out _ gY.out.below).mono ?_;rintro e w2 ⟨v17,rfl,ho,hb⟩;have HS2:=Lib.hid (gY.out.kept hb);clear ho hb))
 (try simp only [World.size_alloc,Act.put,sA,sZ,sS])
 have c0:w2.cell? ⟨w.heap.size,34,none⟩=some (.slice sw nw cw):=by rw [aG (HS2.out.get 0 rfl)];exact pY.out
 clear hm
 go_wp2_with fail
 (try simp only [Exit.then])
 go_ret
 exact ⟨rfl,HS2.out.below⟩
theorem RH {ro ks gs ss ws ms:List Int} (v b i:Int) (I:Nat) (sw sm:Option Addr) (cw nm cm:Nat) (w:World) (h1:ro.length=32) (h2:ks.length=32) (h3:gs.length=64) (h4:ss.length=64) (hws:Src w sw 80 ws) (hT:Ms.lY w) (hm:iJ v b 80 i=true) (hd:¬ (50:Int) < (nm:Int)) (b1:bytes ro) (b2:bytes ks) (b3:bytes gs) (b4:bytes ss) (b5:bytes ws) (hms:Src w sm nm ms) (bms:bytes ms) :
  Calls Tryd.prog 3 #[.agg (aZ v b ro (.slice sw 80 cw) i ks gs ss), .int .i64 (I:Int), .slice sm nm cm] w fun e w'=>e = .returned (.bool true)∧Below w.heap.size w w':=by
 have hwl:=hws.len
 have hml:=hms.len
 have hal:=fun (u:World) (h:Ms.lY u)=>jP u h
 have hp:=fun (u:World) (k:Below w.heap.size w u)=>kL (ro:=ro) (ks:=ks) (gs:=gs) (ss:=ss) v b i sw 80 cw u h1 h2 h3 h4 (hws.below k)
 simp only [hm,if_true] at hp
 have hrp:=fun (sa:Option Addr) (n c:Nat) (u:World)=>QF (v:=v) (b:=b) (i:=i) sa n c u h1 h2 h3 h4 hwl hm b1 b2 b3 b4 b5
 have hbX:bytes (dF v b ro ws i ks gs ++ ss):=gq (rC b1 b2 b3 b5) b4
 have hlX:(dF v b ro ws i ks gs ++ ss).length=300:=by rw [List.length_append,uq h1 h2 h3 hwl,h4]
 generalize dF v b ro ws i ks gs ++ ss=X at hp hrp hbX hlX
 have hit:((I:Int)).tmod 300=((I % 300:Nat):Int):=by rw [Int.tmod_eq_emod_of_nonneg (by omega)];omega
 have hi3:I % 300 < 300:=Nat.mod_lt _ (by decide)
 have hcut:¬ ((I:Int) < 0):=by omega
 generalize I % 300=k at hit hi3
 have hr1:∀ (u:World) (g c:Nat),Src u (some ⟨g,0,none⟩) 300 X→Calls Tryd.prog 7 #[.slice (some ⟨g,0,none⟩) k c] u fun e w'=>e = .returned (.tuple #[.agg gU, .int .i64 4])∧Below u.heap.size u w':=by
  intro u g c h
  have hl:(X.take k).length=k:=by rw [List.length_take,hlX];omega
  exact DW _ k c (X.take k) u (h.take k (by omega)) (fun x hx=>hbX x (List.mem_of_mem_take hx)) (by omega) (LA (by omega))
 have hr2:nm≠0→∀ (u:World) (sa:Option Addr) (n c:Nat),Src u sa n (X ++ ms)→Calls Tryd.prog 7 #[.slice sa n c] u fun e w'=>e = .returned (.tuple #[.agg gU, .int .i64 4])∧Below u.heap.size u w':=by
  intro hz u sa n c h
  have hl:(X ++ ms).length=300+nm:=by rw [List.length_append,hlX,hml]
  exact DW _ n c (X ++ ms) u h (gq hbX bms) (by have:=h.len;omega) (LA (by omega))
 have hr3:nm=0→X ++ ms=X:=by
  intro hz
  rw [List.eq_nil_of_length_eq_zero (hml.trans hz),List.append_nil]
 have hsm:=fun (s1 s2:Option Addr) (c1 c2:Nat) (u:World)=>oN (ro:=ro) (ks:=ks) (gs:=gs) (ss:=ss) (ws:=ws) v b i s1 s2 80 c1 c2 u h1 h2 h3 h4
 have hmc:=fun (wv:Value)=>(⟨bL (v:=v) (b:=b) (i:=i) (wv:=wv) h1 h2 h3 h4,fun ho=>iO (v:=v) (b:=b) (i:=i) (ro:=ro) (ks:=ks) (gs:=gs) (ss:=ss) ho⟩:(aZ v b ro wv i ks gs ss).size=196∧(wv.oneCell'=true→(aZ v b ro wv i ks gs ss).all (·.oneCell')=true))
 have nJ:=gI (v:=v) (b:=b) (i:=i) (ks:=ks) (gs:=gs) (ss:=ss) (wv := .slice sw 80 cw) h1
 obtain ⟨MF,hMF⟩:∃ f:Value→Array Value,f=fun wv=>aZ v b ro wv i ks gs ss:=⟨_,rfl⟩
 have hMF':∀ wv,aZ v b ro wv i ks gs ss=MF wv:=fun wv=>by rw [hMF]
 simp only [hMF'] at hp hrp hsm hmc nJ ⊢
 have hsi:(Tryd.prog.info? 30).map (·.size)=some (MF (.slice sw 80 cw)).size:=by rw [(hmc _).1];exact dH
 have hz:=fun w=>mo w
 have hzs:=Cw
 have hzo:gU.all (·.oneCell')=true:=iO rfl
 generalize gU=Z at hr1 hr2 hz hzs hzo
 have HAL:=Lib.hid hal
 have HP:=Lib.hid hp
 have HRP:=Lib.hid hrp
 have HR1:=Lib.hid hr1
 have HR2:=Lib.hid hr2
 have HR3:=Lib.hid hr3
 have Z6:=Lib.hid hsm
 have HMC:=Lib.hid hmc
 have pY:=Lib.hid nJ
 have IB:=Lib.hid hsi
 have HZ:=Lib.hid hz
 have Pn:Hid ((Tryd.prog.info? 30).map (·.size)=some Z.size):=Lib.hid (by rw [hzs];exact dH)
 have HZO:=Lib.hid hzo
 have HZN:=Lib.hid hzs
 have HWS:=Lib.hid hws
 have Bq:=Lib.hid hms
 have iG:=Lib.hid hlX
 have HT:=Lib.hid hT
 have HNM:=Lib.hid hd
 have vN:=Lib.hid hwl
 have bN:=Lib.hid (bM.one w (MF (.slice sw 80 cw)) 30)
 clear hal hp hrp hr1 hr2 hr3 hsm hmc nJ hsi hz hzs hzo hws hms hlX hT h1 h2 h3 h4 hwl hml hbX hMF hMF' b1 b2 b3 b4 b5 bms hm
 go_enter Tryd.func3, Tryd.ntmps3
 go_upto_region 3 with (first|((with_reducible show Calls _ 5 _ _ _);go_at_call 5; refine (HAL.out _ (HT.out.below bN.out.below)).mono ?_;rintro e w1 ⟨rfl,hb1⟩;have gY:=Lib.hid (bN.out.kept hb1);clear hb1)|((with_reducible refine aS 16 ?_);refine wpList_load_row rfl 30 _ rfl (w.heap.size) rfl 30 _ (0,0) _ (gY.out.get 0 rfl) Tryd.underlying30 rfl IB.out ?_)|((with_reducible show Calls _ 6 _ _ _);go_at_call 6; refine (HP.out _ gY.out.below).mono ?_;rintro e w2 ⟨v17,rfl,ho,hb⟩;obtain ⟨g17,cx,curx,rfl,hcx,hB,hS⟩:=gY.out.own ho hb (by rw [iG.out];decide);rw [iG.out] at hcx hS ⊢; have HS2:=Lib.hid hB;have HX:=Lib.hid hS;have HCX:=Lib.hid hcx;clear ho hb hB hS hcx))
 (try simp only [World.size_alloc,Act.put,sA,sZ,sS])
 have c0:w2.cell? ⟨w.heap.size,34,none⟩=some (.slice sw 80 cw):=by rw [aG (HS2.out.get 0 rfl)];exact pY.out
 go_upto_region 5 with fail
 have hcx:=HCX.out
 clear c0 HP
 have hcap:¬ (cx:Int) < (k:Int):=by omega
 have hi0:¬ (k:Int) < 0:=by omega
 go_upto_region 6 with (first|((with_reducible show Calls _ 7 _ _ _);go_at_call 7; refine (HR1.out _ _ _ (HX.out _ (HS2.out.get 1 rfl))).mono ?_;rintro e w3 ⟨rfl,hb⟩;have F3:=Lib.hid (HS2.out.kept hb);clear hb)|((with_reducible refine aS 10 ?_);refine aj rfl 30 rfl _ (HZ.out _) ?_;have EU:=Lib.hid (F3.out.alloc (Z) 30);generalize w3.heap.size=g10 at EU ⊢; generalize w3.alloc (.cells (Z) 30)=w4 at EU ⊢)|((with_reducible refine aT 10 ?_);refine ah rfl 30 _ _ rfl (g10) _ _ 30 (EU.out.get 2 rfl) rfl rfl rfl Pn.out HZO.out ?_;intro w5 hb hk hz;have SS:=Lib.hid (EU.out.put 2 rfl hk hb);clear hb hk hz))
 (try simp only [World.size_alloc,Act.put,sA,sZ,sS])
 clear hcap hi0 hit hi3
 by_cases hz:nm=0
 ·have ZJ:=Lib.hid (HR3.out hz)
  subst hz
  go_upto_region 7 with (first|((with_reducible refine aS 52 ?_);refine aO rfl (.const (.slice none 0 0)) (.tmp 51) rfl w5.heap.size _ [] rfl (aV.nil _ _) (some ⟨g17,0,none⟩) 300 cx X rfl (HX.out _ (SS.out.get 1 rfl)) (by decide) (Nat.le_refl _) ?_;rw [List.nil_append];intro v52 w52 how hgr _ _;have FE:=Lib.hid (aQ (aV.nil w5 w5.heap.size) hgr (Below.refl _ _) (Nat.le_refl _));have aaA:=Lib.hid how;clear how hgr)|((with_reducible refine aS 54 ?_);refine aO rfl (.tmp 52) (.tmp 53) rfl w5.heap.size v52 X rfl aaA.out sm 0 cm ms rfl (Bq.out.below (SS.out.below.trans (FE.out.mono SS.out.below.size))) (by rw [iG.out];have:=HNM.out;omega) FE.out.size ?_;intro v54 w54 how hgr _ _;have HS6:=Lib.hid (SS.out.kept (aQ aaA.out hgr FE.out FE.out.size));obtain ⟨s54,c54,rfl, -, -, Kg, -⟩:=how.form;obtain ⟨n54,VT⟩:∃ n,n=(X ++ ms).length:=⟨_,rfl⟩;rw [← VT] at Kg ⊢; clear VT;have HO54:=Lib.hid Kg;clear how hgr Kg)|((with_reducible show Calls _ 7 _ _ _);go_at_call 7; refine (HRP.out _ _ _ _ (by have h:=HO54.out;rwa [ZJ.out] at h)).mono ?_;rintro e w7 ⟨s55,c55,rfl,ho,hb⟩;obtain ⟨g55,c56,cur55,he,hcx,hB,hS⟩:=HS6.out.own ho hb (by rw [vN.out];decide);rw [vN.out] at he hS;injection he with e1 e2 e3;subst e1 e3;have SQ:=Lib.hid hB;have HW2:=Lib.hid hS;clear ho hb hB hS hcx e2;have HMS2:Hid ((MF (.slice (some ⟨g55,0,none⟩) 80 c55)).size=Z.size):=Lib.hid (by rw [(HMC.out _).1,HZN.out]);have HMI2:Hid ((Tryd.prog.info? 30).map (·.size)=some (MF (.slice (some ⟨g55,0,none⟩) 80 c55)).size):=Lib.hid (by rw [(HMC.out _).1];exact dH);have HMO2:=Lib.hid ((HMC.out (.slice (some ⟨g55,0,none⟩) 80 c55)).2 rfl))|((with_reducible refine aS 12 ?_);refine aj rfl 30 rfl _ (HZ.out _) ?_;have Je:=Lib.hid (SQ.out.alloc (Z) 30);generalize w7.heap.size=g12 at Je ⊢; generalize w7.alloc (.cells (Z) 30)=w8 at Je ⊢)|((with_reducible refine aT 12 ?_);refine ah rfl 30 _ _ rfl (g12) _ _ 30 (Je.out.get 4 rfl) rfl rfl HMS2.out HMI2.out HMO2.out ?_;intro w9 hb hk hz;have HS9:=Lib.hid (Je.out.put 4 rfl hk hb);clear hb hk hz))
  (try simp only [World.size_alloc,Act.put,sA,sZ,sS])
  go_wp2_with (first|((with_reducible show Calls _ 8 _ _ _);go_at_call 8; refine (uX _ _).mono ?_;rintro e w' ⟨rfl,rfl⟩)|((with_reducible refine aS 75 ?_);refine eG (by rfl) 30 _ rfl (w.heap.size) rfl _ _ (0,0) _ (HS9.out.get 0 rfl) Tryd.underlying30 rfl IB.out ?_)|((with_reducible refine aS 76 ?_);refine eG (by rfl) 30 _ rfl (g12) rfl _ _ (0,0) _ (HS9.out.get 4 rfl) Tryd.underlying30 rfl HMI2.out ?_)|((with_reducible show Calls _ 9 _ _ _);go_at_call 9; refine (Z6.out _ _ _ _ _ (HWS.out.below HS9.out.below) (HW2.out _ (HS9.out.get 3 rfl))).mono ?_;rintro e TH ⟨rfl,hb⟩;have HS10:=Lib.hid (HS9.out.kept hb);clear hb))
  all_goals (try simp only [Exit.then])
  go_ret
  exact ⟨rfl,HS10.out.below⟩
 ·have hz2:((nm:Int) == 0)=false:=by rw [beq_eq_false_iff_ne];omega
  have hz3:(0:Int) < (nm:Int):=by omega
  have hz4:0 < nm:=by omega
  have ZJ:=Lib.hid hz
  clear hz
  go_upto_region 7 with (first|((with_reducible refine aS 52 ?_);refine aO rfl (.const (.slice none 0 0)) (.tmp 51) rfl w5.heap.size _ [] rfl (aV.nil _ _) (some ⟨g17,0,none⟩) 300 cx X rfl (HX.out _ (SS.out.get 1 rfl)) (by decide) (Nat.le_refl _) ?_;rw [List.nil_append];intro v52 w52 how hgr _ _;have FE:=Lib.hid (aQ (aV.nil w5 w5.heap.size) hgr (Below.refl _ _) (Nat.le_refl _));have aaA:=Lib.hid how;clear how hgr)|((with_reducible refine aS 54 ?_);refine aO rfl (.tmp 52) (.tmp 53) rfl w5.heap.size v52 X rfl aaA.out sm nm cm ms rfl (Bq.out.below (SS.out.below.trans (FE.out.mono SS.out.below.size))) (by rw [iG.out];have:=HNM.out;omega) FE.out.size ?_;intro v54 w54 how hgr _ _;have HS6:=Lib.hid (SS.out.kept (aQ aaA.out hgr FE.out FE.out.size));obtain ⟨s54,c54,rfl, -, -, Kg, -⟩:=how.form;obtain ⟨n54,VT⟩:∃ n,n=(X ++ ms).length:=⟨_,rfl⟩;rw [← VT] at Kg ⊢; clear VT;have HO54:=Lib.hid Kg;clear how hgr Kg)|((with_reducible show Calls _ 7 _ _ _);go_at_call 7; refine (HR2.out ZJ.out _ _ _ _ HO54.out).mono ?_;rintro e w7 ⟨rfl,hb⟩;have SQ:=Lib.hid (HS6.out.kept hb);clear hb)|((with_reducible refine aS 12 ?_);refine aj rfl 30 rfl _ (HZ.out _) ?_;have Je:=Lib.hid (SQ.out.alloc (Z) 30);generalize w7.heap.size=g12 at Je ⊢; generalize w7.alloc (.cells (Z) 30)=w8 at Je ⊢)|((with_reducible refine aT 12 ?_);refine ah rfl 30 _ _ rfl (g12) _ _ 30 (Je.out.get 3 rfl) rfl rfl rfl Pn.out HZO.out ?_;intro w9 hb hk hz;have HS9:=Lib.hid (Je.out.put 3 rfl hk hb);clear hb hk hz))
  (try simp only [World.size_alloc,Act.put,sA,sZ,sS])
  go_wp2_with (first|((with_reducible show Calls _ 8 _ _ _);go_at_call 8; refine (uX _ _).mono ?_;rintro e w' ⟨rfl,rfl⟩))
  all_goals (try simp only [Exit.then])
  go_ret
  exact ⟨rfl,HS9.out.below⟩
theorem RI {ro ks gs ss ws ms:List Int} (v b i cut:Int) (sw sm:Option Addr) (nw cw nm cm:Nat) (w:World) (hl:ro.length=32∧ks.length=32∧gs.length=64∧ss.length=64) (hb:bytes ro∧bytes ks∧bytes gs∧bytes ss) (hws:Src w sw nw ws∧bytes ws∧nw≤cw) (hms:Src w sm nm ms∧bytes ms∧nm≤cm) (hT:Ms.lY w) :
  Calls Tryd.prog 3 #[.agg (aZ v b ro (.slice sw nw cw) i ks gs ss), .int .i64 cut, .slice sm nm cm] w fun e w'=>e = .returned (.bool true)∧Below w.heap.size w w':=by
 obtain ⟨h1,h2,h3,h4⟩:=hl
 obtain ⟨b1,b2,b3,b4⟩:=hb
 cases hm:iJ v b nw i with
 | false =>
  by_cases h:(300:Int) < (nw:Int)
  ·exact Zh v b i cut sw sm nw cw nm cm w h1 h2 h3 h4 hws.1 hT hm h
  ·exact Zg v b i cut sw sm nw cw nm cm w h1 h2 h3 h4 hws.1 hT hm h
 | true =>
  have hn:nw=80:=by
   unfold iJ at hm
   simp only [Bool.and_eq_true,decide_eq_true_eq] at hm
   exact hm.1.2
  subst hn
  by_cases hc:cut < 0
  ·exact Zi v b i cut sw sm 80 cw nm cm w h1 h2 h3 h4 hws.1 hT hm (by decide) hc
  ·by_cases hd:(50:Int) < (nm:Int)
   ·exact RF v b i cut sw sm 80 cw nm cm w h1 h2 h3 h4 hws.1 hT hm (by decide) hc hd
   ·obtain ⟨I,rfl⟩:=Int.eq_ofNat_of_zero_le (show 0≤cut by omega)
    exact RH v b i I sw sm cw nm cm w h1 h2 h3 h4 hws.1 hT hm hd b1 b2 b3 b4 hws.2.1 hms.1 hms.2.1
end Go.Proofs.YthdgbgleklkaiaaDoor.Mf
