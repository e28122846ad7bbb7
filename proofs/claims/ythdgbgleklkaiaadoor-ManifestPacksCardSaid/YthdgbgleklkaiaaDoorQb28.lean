/- manifest.Body of a manifest that may be. The document's small, stopText, certText, PackStop. Condition: as each theorem says. -/

import Derived.Test.YthdgbgleklkaiaaDoorQb05
import Derived.Test.YthdgbgleklkaiaaDoorQb27
open Go.Lib renaming hid→acD
open Nat renaming le_refl→acE,le_of_lt→acG
open List renaming length_append→acF
set_option linter.unusedSimpArgs false
set_option linter.unusedVariables false
set_option maxRecDepth 100000
set_option maxHeartbeats 16000000
namespace Go.Proofs.YthdgbgleklkaiaaDoor.Mf
open Go.RowKit Lm Fp Cu Sl Sc Ce
def bV (v b:Int) (ro ws:List Int) (i:Int) (ks gs:List Int):List Int:=fq (fq [80,67,77,49] [v,b] ++ ro ++ ws) [i] ++ ks ++ gs
theorem kP {w:World} {g:Nat} {cs:Array Value} {t:TypeId} {fr:Nat×Nat} (h:w.heap[g]? = some (.cells cs t fr)) (off:Nat) {xs:List Int} (hp:(cs.toList.drop off).take xs.length=xs.map (Value.int .u8)):Src w (some ⟨g,off,none⟩) xs.length xs:=by
 refine ⟨rfl,fun i hi=>⟨_,rfl,?_⟩⟩
 rw [Addr.add_lit,aF h]
 have h2:=congrArg (fun l=>l[i]?) hp
 simp only [List.getElem?_take,hi,if_true,List.getElem?_drop,List.getElem?_map] at h2
 simpa [List.getD,hi] using h2
theorem Hu (w:World) (x y:Int):sH (w.alloc (.cells #[.int .i64 x, .int .i64 y] 3)) (some ⟨w.heap.size,0,none⟩) 2 [x,y]:=by
 refine ⟨rfl,fun i hi=>⟨_,rfl,?_⟩⟩
 have:i=0∨i=1:=by omega
 rcases this with rfl|rfl
 ·rw [show (⟨w.heap.size,0,none⟩:Addr).add 0=⟨w.heap.size,0,none⟩ from rfl,aF (aG w _)]
  rfl
 ·rw [Addr.add_lit,aF (aG w _)]
  rfl
theorem Jo {ro ks gs ss ws:List Int} (v b i:Int) (sw:Option Addr) (cw:Nat) (w:World) (h1:ro.length=32) (h2:ks.length=32) (h3:gs.length=64) (h4:ss.length=64) (hws:Src w sw 80 ws) (hm:gq v b 80 i=true) :
  Calls Tryd.prog 11 #[.agg (aZ v b ro (.slice sw 80 cw) i ks gs ss)] w fun e w'=>∃ vv,e = .returned (.tuple #[vv, .int .i64 0])∧aU w' w.heap.size vv (bV v b ro ws i ks gs)∧Below w.heap.size w w':=by
 have hb0:(0≤v∧v≤2147483647)∧(1≤b∧b≤32)∧(0≤i∧i≤2147483647):=by simpa [gq,wZ,and_assoc] using hm
 have hwl:=hws.len
 have hp1:=fun (u:World) (g h c:Nat) (k1:Src u (some ⟨g,0,none⟩) 4 [80,67,77,49]) (k2:sH u (some ⟨h,0,none⟩) 2 [v,b])=>Ie (some ⟨g,0,none⟩) (some ⟨h,0,none⟩) 4 c 2 2 [80,67,77,49] [v,b] u k1 k2 (by decide) (by decide)
 have hp2:=fun (u:World) (T:List Int) (sa:Option Addr) (n c h:Nat) (k1:Src u sa n T) (k2:sH u (some ⟨h,0,none⟩) 1 [i]) (hn:n≤1000)=>Ie sa (some ⟨h,0,none⟩) n c 1 1 T [i] u k1 k2 (by omega) (by decide)
 have hl1:(fq [80,67,77,49] [v,b]).length=20:=by rw [dO];rfl
 obtain ⟨T1,hT1⟩:∃ T,T=fq [80,67,77,49] [v,b]:=⟨_,rfl⟩
 have hl3:(fq (T1 ++ ro ++ ws) [i]).length=140:=by rw [dO,acF,acF,hT1,hl1,h1,hwl];rfl
 obtain ⟨T3,ZG⟩:∃ T,T=fq (T1 ++ ro ++ ws) [i]:=⟨_,rfl⟩
 have hbd:bV v b ro ws i ks gs=T3 ++ ks ++ gs:=by rw [bV,ZG,hT1]
 rw [← hT1] at hl1
 simp only [← hT1] at hp1
 rw [← ZG] at hl3
 have hp3:=fun (u:World) (sa:Option Addr) (n c h:Nat) (k1:Src u sa n (T1 ++ ro ++ ws)) (k2:sH u (some ⟨h,0,none⟩) 1 [i]) (hn:n≤1000)=>hp2 u (T1 ++ ro ++ ws) sa n c h k1 k2 hn
 simp only [← ZG] at hp3
 rw [hbd]
 have m0:=rW (v:=v) (b:=b) (i:=i) (ro:=ro) (ks:=ks) (gs:=gs) (ss:=ss) (wv := .slice sw 80 cw)
 have m1:=lI (v:=v) (b:=b) (i:=i) (ro:=ro) (ks:=ks) (gs:=gs) (ss:=ss) (wv := .slice sw 80 cw)
 have Uu:=iq (v:=v) (b:=b) (i:=i) (ks:=ks) (gs:=gs) (ss:=ss) (wv := .slice sw 80 cw) h1
 have m35:=lX (v:=v) (b:=b) (i:=i) (ks:=ks) (gs:=gs) (ss:=ss) (wv := .slice sw 80 cw) h1
 have mr:=yF (v:=v) (b:=b) (i:=i) (ro:=ro) (ks:=ks) (gs:=gs) (ss:=ss) (wv := .slice sw 80 cw)
 have mk:=P8 (v:=v) (b:=b) (i:=i) (ks:=ks) (gs:=gs) (ss:=ss) (wv := .slice sw 80 cw) h1
 have mg:=P9 (v:=v) (b:=b) (i:=i) (gs:=gs) (ss:=ss) (wv := .slice sw 80 cw) h1 h2
 have yD:=bK (v:=v) (b:=b) (i:=i) (wv := .slice sw 80 cw) h1 h2 h3 h4
 have nX:=fun (u:World)=>nT (ks:=ks) (gs:=gs) (ss:=ss) v b i sw 80 cw u h1
 rw [hm] at nX
 obtain ⟨M,hM⟩:∃ M,M=aZ v b ro (.slice sw 80 cw) i ks gs ss:=⟨_,rfl⟩
 rw [← hM] at m0 m1 Uu m35 mr mk mg yD nX ⊢
 have hb:=(Below.refl _ w).alloc (acE _) (.cells M 30)
 have Xr:=hws.below hb
 have hg0:(w.alloc (.cells M 30)).heap[w.heap.size]? = some (.cells M 30 (0,0)):=aG w _
 have hlt:w.heap.size < (w.alloc (.cells M 30)).heap.size:=by simp
 have hsr:∀ u:World,u.heap[w.heap.size]? = some (.cells M 30 (0,0))→Src u (some ⟨w.heap.size,2,none⟩) 32 ro∧Src u (some ⟨w.heap.size,36,none⟩) 32 ks∧Src u (some ⟨w.heap.size,68,none⟩) 64 gs:=by
  intro u h
  rw [← h1] at *
  refine ⟨kP h 2 mr,?_,?_⟩
  ·have:=kP h 36 mk
   rwa [h2] at this
  ·have:=kP h 68 mg
   rwa [h3] at this
 have HP1:=acD hp1
 have Cx:=acD hp3
 have nC:=acD hl1
 have HL3:=acD hl3
 have iG:=acD h1
 have kU:=acD h2
 have Ur:=acD h3
 have HM0:=acD m0
 have Cz:=acD m1
 have qG:=acD Uu
 have HM35:=acD m35
 have xJ:=acD hsr
 have HW:=acD Xr
 have rE:=acD hwl
 have HG:=acD hg0
 have HB0:=acD hb
 have kK:=acD hlt
 have Cy:Hid ((Tryd.prog.info? 30).map (·.size)=some M.size):=acD (by rw [yD];kernel_rfl)
 have HMY:=acD nX
 clear hp1 hp2 hp3 hl1 hl3 h1 h2 h3 h4 m0 m1 Uu m35 mr mk mg yD hsr hws Xr hwl hg0 hb hlt hM hbd hT1 ZG hm hb0 nX
 go_enter Tryd.func11, Tryd.ntmps11
 go_upto_region 1 with fail
 generalize w.alloc (.cells M 30)=wb at HW HG HB0 kK xJ ⊢
 go_upto_region 3 with (first|((with_reducible refine aS 5 ?_);refine wpList_load_row rfl 30 _ rfl (w.heap.size) rfl 30 _ (0,0) _ HG.out Tryd.underlying30 rfl Cy.out ?_)|((with_reducible show Calls _ 23 _ _ _);go_at_call 23; refine (HMY.out _).mono ?_;rintro e w1 ⟨rfl,hb1⟩;have qH:=acD (Below.blk hb1 HG.out (aO HG.out));have HB1:=acD hb1;clear hb1))
 have kc:=conv4 w1 80 67 77 49
 have hz1:=HB1.out.size
 obtain ⟨w2,hw2⟩:∃ x,x=w1.alloc (.cells (vI 80 67 77 49) 5 (4,5)):=⟨_,rfl⟩
 have hb2:Below w1.heap.size w1 w2:=by rw [hw2];exact (Below.refl _ w1).alloc (acE _) _
 have hs2:Src w2 (some ⟨w1.heap.size,0,none⟩) 4 [80,67,77,49]:=by rw [hw2];exact src4 (aG w1 _)
 rw [← hw2] at kc
 have HG2:=acD (Below.blk hb2 qH.out (aO qH.out))
 have hb3:=(Below.refl _ w2).alloc (acE _) (.cells #[.int .i64 v, .int .i64 b] 3)
 have UF:=acD (Below.blk hb3 HG2.out (aO HG2.out))
 have HB3:=acD ((HB1.out.trans (hb2.mono hz1)).trans (hb3.mono (Nat.le_trans hz1 hb2.size)))
 have HQ:=acD (HP1.out _ _ _ 4 (hs2.below hb3) (Hu w2 v b))
 have HZ3:Hid (wb.heap.size≤(w2.alloc (.cells #[.int .i64 v, .int .i64 b] 3)).heap.size):=acD HB3.out.size
 have c0:w2.cell? ⟨w.heap.size,0,none⟩=some (.int .i64 v):=by rw [aF HG2.out];exact HM0.out
 have c1:w2.cell? ⟨w.heap.size,1,none⟩=some (.int .i64 b):=by rw [aF HG2.out];exact Cz.out
 unfold vI at kc
 clear hw2 hb2 hs2 hb3 hz1
 go_upto_region 4 with ((with_reducible show Calls _ 24 _ _ _);go_at_call 24; refine HQ.out.mono ?_;rintro e w4 ⟨v4,rfl,ho,hb⟩;have UD:=acD (ho.mono HZ3.out);have HG4:=acD (Below.blk hb UF.out (aO UF.out));have HB4:=acD (HB3.out.trans (hb.mono HZ3.out));clear ho hb)
 clear kc c0 c1 HQ HZ3 UF HB3 HG2 qH HB1
 have k34:w4.cell? ⟨w.heap.size,34,none⟩=some (.slice sw 80 cw):=by rw [aF HG4.out];exact qG.out
 refine wp_region_held_drew (S:=fun u=>Below wb.heap.size wb u∧u.cell? ⟨w.heap.size,34,none⟩=some (.slice sw 80 cw)) (by kernel_rfl) (⟨HB4.out.drew,k34⟩) (fun hHeld=>?_)
 refine wpAnyH_take (i:=0) (oi:=(⟨some 16,_,_,_,_,none⟩:Oper)) (v:=v4) rfl (by kernel_rfl) (by kernel_rfl) (by kernel_rfl) (fun _ _ _ h=>h) (Or.inl ⟨by rfl,?hy101⟩) (by assumption) ?yA
 case hy101=>(intro u dD;(try dsimp only at dD);go_simp;try (with_reducible rfl))
 (try simp only [Act.put,sA,sZ,sS])
 refine wpAnyH_take (i:=1) (oi:=(⟨some 17,_,_,_,_,none⟩:Oper)) (v := .pointer (some ⟨w.heap.size,2,none⟩)) rfl (by kernel_rfl) (by kernel_rfl) (by kernel_rfl) (fun _ _ _ h=>h) (Or.inl ⟨by rfl,?hy102⟩) (by assumption) ?PG
 case hy102=>(intro u dD;(try dsimp only at dD);go_simp;try (with_reducible rfl))
 (try simp only [Act.put,sA,sZ,sS])
 refine wpAnyH_take (i:=2) (oi:=(⟨some 18,_,_,_,_,none⟩:Oper)) (v := .slice (some ⟨w.heap.size,2,none⟩) 32 32) rfl (by kernel_rfl) (by kernel_rfl) (by kernel_rfl) (fun _ _ _ h=>h) (Or.inl ⟨by rfl,?IK⟩) (by assumption) ?PE
 case IK=>(intro u dD;(try dsimp only at dD);go_simp;try (with_reducible rfl))
 (try simp only [Act.put,sA,sZ,sS])
 refine wpAnyH_take (i:=4) (oi:=(⟨some 20,_,_,_,_,none⟩:Oper)) (v := .pointer (some ⟨w.heap.size,34,none⟩)) rfl (by kernel_rfl) (by kernel_rfl) (by kernel_rfl) (fun _ _ _ h=>h) (Or.inl ⟨by rfl,?hy104⟩) (by assumption) ?PD
 case hy104=>(intro u dD;(try dsimp only at dD);go_simp;try (with_reducible rfl))
 (try simp only [Act.put,sA,sZ,sS])
 refine wpAnyH_take (i:=5) (oi:=(⟨some 21,_,_,_,_,none⟩:Oper)) (v := .slice sw 80 cw) rfl (by kernel_rfl) (by kernel_rfl) (by kernel_rfl) (fun _ _ _ h=>h) (Or.inl ⟨by rfl,?Xq⟩) (by assumption) ?Pz
 case Xq=>(intro u dD;(try dsimp only at dD);obtain ⟨-, k0⟩:=dD;go_simp;try (with_reducible rfl))
 (try simp only [Act.put,sA,sZ,sS])
 refine wpAnyH_ready (rs:=[3]) (by kernel_rfl) (by simp) ?_
 refine AllReadyH.cons (o:=(⟨some 19,_,_,_,_,none⟩:Oper)) rfl (fun K hK=>?_) AllReadyH.nil
 have Xw:=(xJ.out w4.drew HG4.out).1
 refine d9 rfl (.tmp 16) (.tmp 18) rfl wb.heap.size v4 T1 rfl UD.out (some ⟨w.heap.size,2,none⟩) 32 32 ro rfl Xw (by rw [nC.out];decide) HB4.out.size ?_
 intro v5 w5 how hgr _ _
 have JY:=acD how
 have hb5:=aQ UD.out.drew hgr HB4.out.drew HB4.out.size
 have fM:=acD hb5
 have HG5:Hid (w5.heap[w.heap.size]? = some (.cells M 30 (0,0))):=acD (by rw [hb5.block _ kK.out];exact HG.out)
 clear how hgr hb5 Xw
 have k35:w5.cell? ⟨w.heap.size,34,none⟩=some (.slice sw 80 cw):=by rw [aF HG5.out];exact qG.out
 refine hK.out _ _ (⟨fM.out,k35⟩) (fun hHeld=>?_)
 clear hK K
 (try simp only [Act.put,sA,sZ,sS])
 refine wpAnyH_ready (rs:=[6]) (by kernel_rfl) (by simp) ?_
 refine AllReadyH.cons (o:=(⟨some 22,_,_,_,_,none⟩:Oper)) rfl (fun K hK=>?_) AllReadyH.nil
 refine d9 rfl (.tmp 19) (.tmp 21) rfl wb.heap.size v5 (T1 ++ ro) rfl JY.out sw 80 cw ws rfl (HW.out.below fM.out) (by rw [acF,nC.out,iG.out];decide) fM.out.size ?_
 intro v6 w6 how hgr _ _
 have En:=acD how
 have hb6:=aQ JY.out hgr fM.out fM.out.size
 have ko:=acD hb6
 have lN:Hid (w6.heap[w.heap.size]? = some (.cells M 30 (0,0))):=acD (by rw [hb6.block _ kK.out];exact HG.out)
 clear how hgr hb6
 have k36:w6.cell? ⟨w.heap.size,34,none⟩=some (.slice sw 80 cw):=by rw [aF lN.out];exact qG.out
 refine hK.out _ _ (⟨ko.out,k36⟩) (fun hHeld=>?_)
 clear hK K
 (try simp only [Act.put,sA,sZ,sS])
 refine wpAnyH_take (i:=7) (oi:=(⟨some 4,_,_,_,_,none⟩:Oper)) (v:=v6) rfl (by kernel_rfl) (by kernel_rfl) (by kernel_rfl) (fun _ _ _ h=>h) (Or.inl ⟨by rfl,?Xp⟩) (by assumption) ?Py
 case Xp=>(intro u dD;(try dsimp only at dD);go_simp;try (with_reducible rfl))
 (try simp only [Act.put,sA,sZ,sS])
 refine wpAnyH_done (by kernel_rfl) ?_ _
 (try simp only [Exit.then])
 clear k34 k35 k36 hHeld
 have hl6:(T1 ++ ro ++ ws).length=132:=by rw [acF,acF,nC.out,iG.out,rE.out]
 obtain ⟨s6,c6,e6, -, -, hs6, -⟩:=En.out.form
 rw [hl6] at e6 hs6
 subst e6
 have HS6:=acD hs6
 clear hl6 hs6
 have k35:w6.cell? ⟨w.heap.size,35,none⟩=some (.int .i64 i):=by rw [aF lN.out];exact HM35.out
 go_upto_region 5 with fail
 refine wp_region_held_drew (S:=fun u=>Below wb.heap.size wb u∧u.cell? ⟨w.heap.size,35,none⟩=some (.int .i64 i)) (by kernel_rfl) (⟨ko.out.drew,k35⟩) (fun hHeld=>?_)
 refine wpAnyH_take (i:=0) (oi:=(⟨some 23,_,_,_,_,none⟩:Oper)) (v := .slice s6 132 c6) rfl (by kernel_rfl) (by kernel_rfl) (by kernel_rfl) (fun _ _ _ h=>h) (Or.inl ⟨by rfl,?Xo⟩) (by assumption) ?rest107
 case Xo=>(intro u dD;(try dsimp only at dD);go_simp;try (with_reducible rfl))
 (try simp only [Act.put,sA,sZ,sS])
 refine wpAnyH_take (i:=1) (oi:=(⟨some 24,_,_,_,_,none⟩:Oper)) (v := .pointer (some ⟨w.heap.size,35,none⟩)) rfl (by kernel_rfl) (by kernel_rfl) (by kernel_rfl) (fun _ _ _ h=>h) (Or.inl ⟨by rfl,?Xn⟩) (by assumption) ?rest108
 case Xn=>(intro u dD;(try dsimp only at dD);go_simp;try (with_reducible rfl))
 (try simp only [Act.put,sA,sZ,sS])
 refine wpAnyH_take (i:=2) (oi:=(⟨some 25,_,_,_,_,none⟩:Oper)) (v := .pointer (some ⟨w.heap.size,35,none⟩)) rfl (by kernel_rfl) (by kernel_rfl) (by kernel_rfl) (fun _ _ _ h=>h) (Or.inl ⟨by rfl,?IJ⟩) (by assumption) ?Px
 case IJ=>(intro u dD;(try dsimp only at dD);go_simp;try (with_reducible rfl))
 (try simp only [Act.put,sA,sZ,sS])
 refine wpAnyH_take (i:=3) (oi:=(⟨some 26,_,_,_,_,none⟩:Oper)) (v := .int .i64 i) rfl (by kernel_rfl) (by kernel_rfl) (by kernel_rfl) (fun _ _ _ h=>h) (Or.inl ⟨by rfl,?II⟩) (by assumption) ?Pw
 case II=>(intro u dD;(try dsimp only at dD);obtain ⟨-, k0⟩:=dD;go_simp;try (with_reducible rfl))
 (try simp only [Act.put,sA,sZ,sS])
 refine wpAnyH_take (i:=6) (oi:=(⟨some 29,_,_,_,_,none⟩:Oper)) (v := .pointer (some ⟨w.heap.size,35,none⟩)) rfl (by kernel_rfl) (by kernel_rfl) (by kernel_rfl) (fun _ _ _ h=>h) (Or.inl ⟨by rfl,?hy111⟩) (by assumption) ?rest111
 case hy111=>(intro u dD;(try dsimp only at dD);go_simp;try (with_reducible rfl))
 (try simp only [Act.put,sA,sZ,sS])
 refine wpAnyH_take (i:=7) (oi:=(⟨some 30,_,_,_,_,none⟩:Oper)) (v := .pointer (some ⟨w.heap.size,36,none⟩)) rfl (by kernel_rfl) (by kernel_rfl) (by kernel_rfl) (fun _ _ _ h=>h) (Or.inl ⟨by rfl,?hy112⟩) (by assumption) ?rest112
 case hy112=>(intro u dD;(try dsimp only at dD);go_simp;try (with_reducible rfl))
 (try simp only [Act.put,sA,sZ,sS])
 refine wpAnyH_take (i:=8) (oi:=(⟨some 31,_,_,_,_,none⟩:Oper)) (v := .slice (some ⟨w.heap.size,36,none⟩) 32 32) rfl (by kernel_rfl) (by kernel_rfl) (by kernel_rfl) (fun _ _ _ h=>h) (Or.inl ⟨by rfl,?hy113⟩) (by assumption) ?Pv
 case hy113=>(intro u dD;(try dsimp only at dD);go_simp;try (with_reducible rfl))
 (try simp only [Act.put,sA,sZ,sS])
 refine wpAnyH_ready (rs:=[4]) (by kernel_rfl) (by simp) ?_
 refine AllReadyH.cons (o:=(⟨some 27,_,_,_,_,none⟩:Oper)) rfl (fun K hK=>?_) AllReadyH.nil
 refine yG rfl (.slice (some ⟨w6.drew.heap.size,0,none⟩) 1 1) (u':=w6.drew.alloc (.cells #[.int .i64 i] 3)) (by first|rfl|kernel_rfl) ?_
 have dR:Below w6.heap.size w6 (w6.drew.alloc (.cells #[.int .i64 i] 3)):=(Below.refl _ w6).drew.alloc (acE _) _
 have eG:=acD (ko.out.trans (dR.mono ko.out.size))
 have k7:=dI dR k35
 have HQ7:=acD (Cx.out _ s6 132 c6 _ (HS6.out.below dR) (zH w6.drew i) (by decide))
 have HG7:=acD (Below.blk dR lN.out (aO lN.out))
 generalize w6.drew.heap.size=g7 at HQ7 ⊢
 generalize w6.drew.alloc (.cells #[.int .i64 i] 3)=w7 at eG k7 HQ7 HG7 dR ⊢
 clear dR
 refine hK.out _ _ (⟨eG.out,k7⟩) (fun hHeld=>?_)
 clear hK K
 (try simp only [Act.put,sA,sZ,sS])
 refine wpAnyH_ready (rs:=[5]) (by kernel_rfl) (by simp) ?_
 refine AllReadyH.cons (o:=(⟨some 28,_,_,_,_,none⟩:Oper)) rfl (fun K hK=>?_) AllReadyH.nil
 go_simp
 go_at_call 24
 refine HQ7.out.mono ?_
 rintro e w8 ⟨v8,rfl,ho,hb⟩
 have UC:=acD (ho.mono eG.out.size)
 have fC:=acD (eG.out.trans (hb.mono eG.out.size))
 have QY:=acD (Below.blk hb HG7.out (aO HG7.out))
 have k8:=dI hb k7
 clear ho hb
 refine hK.out _ _ (⟨fC.out,k8⟩) (fun hHeld=>?_)
 clear hK K
 (try simp only [Act.put,sA,sZ,sS])
 refine wpAnyH_ready (rs:=[9]) (by kernel_rfl) (by simp) ?_
 refine AllReadyH.cons (o:=(⟨some 32,_,_,_,_,none⟩:Oper)) rfl (fun K hK=>?_) AllReadyH.nil
 have Xv:=(xJ.out _ QY.out).2.1
 refine d9 rfl (.tmp 28) (.tmp 31) rfl wb.heap.size v8 T3 rfl UC.out (some ⟨w.heap.size,36,none⟩) 32 32 ks rfl Xv (by rw [HL3.out];decide) fC.out.size ?_
 intro v9 w9 how hgr _ _
 have GL:=acD how
 have dF:=aQ UC.out hgr fC.out fC.out.size
 have kW:=acD dF
 have HG9:Hid (w9.heap[w.heap.size]? = some (.cells M 30 (0,0))):=acD (by rw [dF.block _ kK.out];exact HG.out)
 clear how hgr dF Xv
 have k9:w9.cell? ⟨w.heap.size,35,none⟩=some (.int .i64 i):=by rw [aF HG9.out];exact HM35.out
 refine hK.out _ _ (⟨kW.out,k9⟩) (fun hHeld=>?_)
 clear hK K
 (try simp only [Act.put,sA,sZ,sS])
 refine wpAnyH_take (i:=10) (oi:=(⟨some 4,_,_,_,_,none⟩:Oper)) (v:=v9) rfl (by kernel_rfl) (by kernel_rfl) (by kernel_rfl) (fun _ _ _ h=>h) (Or.inl ⟨by rfl,?hy114⟩) (by assumption) ?Pq
 case hy114=>(intro u dD;(try dsimp only at dD);go_simp;try (with_reducible rfl))
 (try simp only [Act.put,sA,sZ,sS])
 refine wpAnyH_done (by kernel_rfl) ?_ _
 (try simp only [Exit.then])
 clear k35 k7 k8 k9 hHeld
 have HSG:=acD (xJ.out _ HG9.out).2.2
 go_wp2_with ((with_reducible refine aS 37 ?_);refine aR rfl (.tmp 33) (.tmp 36) rfl wb.heap.size v9 (T3 ++ ks) rfl GL.out (some ⟨w.heap.size,68,none⟩) 64 64 gs rfl HSG.out (by rw [acF,HL3.out,kU.out];decide) kW.out.size ?_;intro v10 Us how hgr _ _;have ow:=acD how;have OM:=acD (aQ GL.out hgr kW.out kW.out.size);clear how hgr)
 all_goals (try simp only [Exit.then])
 go_ret2
 exact ⟨_,rfl,ow.out.mono (acG kK.out),HB0.out.trans (OM.out.mono (acG kK.out))⟩
end Go.Proofs.YthdgbgleklkaiaaDoor.Mf
namespace Go.Proofs.YthdgbgleklkaiaaDoor.Ce
open Go.RowKit Lm Fp Cu Sl Sc
theorem gT (id:Int) (w:World):Calls Tryd.prog 25 #[.int .i64 id] w fun e w'=>e = .returned (.bool (wZ id))∧w=w':=by
 go_enter Tryd.func25, Tryd.ntmps25
 go_wp2_with fail
 all_goals (try simp only [Exit.then])
 ·go_ret
  rename_i h
  refine ⟨?_,rfl⟩
  rw [wZ,decide_eq_true h,Bool.true_and]
  rfl
 ·go_ret
  rename_i h
  refine ⟨?_,rfl⟩
  rw [wZ,decide_eq_false (by omega),Bool.false_and]
  rfl
theorem FL {ks:List Int} (id:Int) (key:Nat) (w:World) (hk:Nv ks key) (hi : -9223372036854775808≤id∧id≤9223372036854775807):Calls Tryd.prog 47 #[.int .i64 id, .agg (arr .u8 ks)] w fun e w'=>∃ v,e = .returned v∧aU w' w.heap.size v (oJ id key)∧Below w.heap.size w w':=by
 have hn:n32 key=ks:=hk.1.symm
 have hpl:(fq [80,67,67,84] [id]).length=12:=by rw [dO];rfl
 rw [oJ,hn]
 obtain ⟨T,hT⟩:∃ T,T=fq [80,67,67,84] [id]:=⟨_,rfl⟩
 have hint:∀ (u:World) (g h:Nat),Src u (some ⟨g,0,none⟩) 4 [80,67,67,84]→sH u (some ⟨h,0,none⟩) 1 [id]→Calls Tryd.prog 26 #[.slice (some ⟨g,0,none⟩) 4 4, .slice (some ⟨h,0,none⟩) 1 1] u fun e w'=>∃ v,e = .returned v∧aU w' u.heap.size v T∧Below u.heap.size u w':=by
  intro u g h h1 h2
  rw [hT]
  exact uh (some ⟨g,0,none⟩) (some ⟨h,0,none⟩) 4 4 1 1 _ _ u h1 h2 (by decide) (by decide) (by intro y hy;simp at hy;subst hy;exact hi)
 rw [← hT] at hpl ⊢
 have HINT:=acD hint
 have Em:=acD hpl
 have kU:=acD hk.len
 have xJ:Hid (Src (w.alloc (.cells (arr .u8 ks) 23)) (some ⟨w.heap.size,0,none⟩) 32 ks):=acD (bO (aG w _) 32 hk.len)
 have oW:Hid (Below w.heap.size w (w.alloc (.cells (arr .u8 ks) 23))):=acD ((Below.refl _ w).alloc (acE _) _)
 have kK:Hid (w.heap.size < (w.alloc (.cells (arr .u8 ks) 23)).heap.size):=acD (by simp)
 clear hint hpl hk hn hT hi
 go_enter Tryd.func47, Tryd.ntmps47
 go_upto_region 1 with fail
 generalize w.alloc (.cells (arr .u8 ks) 23)=wb at xJ oW kK ⊢
 refine pq (fun f u=>Below wb.heap.size wb u
  ∧ (∀ v,f 0=some v→∃ g,v = .slice (some ⟨g,0,none⟩) 4 4∧(f 4=none→wb.heap.size≤g∧u.heap[g]? = some (.cells (vI 80 67 67 84) 5 (if (f 1).isSome then (4,5) else (0,0))))∧∀ x,f 1=some x→x=v)
  ∧ (∀ v,f 2=some v→v = .int .i64 id)
  ∧ (∀ v,f 3=some v→∃ g,v = .slice (some ⟨g,0,none⟩) 1 1∧(f 4=none→wb.heap.size≤g∧u.heap[g]? = some (.cells #[.int .i64 id] 3 (0,0))))
  ∧ (∀ v,f 4=some v→f 6=none→aU u wb.heap.size v T)
  ∧ (∀ v,f 5=some v→v = .slice (some ⟨w.heap.size,0,none⟩) 32 32)
  ∧ (∀ v,f 6=some v→aU u wb.heap.size v (T ++ ks))
  ∧ (∀ v,f 7=some v→f 6=some v)) (by kernel_rfl) (by kernel_rfl) ?z1 ?s1 ?e1
 case z1=>exact ⟨(Below.refl _ wb).drew,fun _ h=>(by cases h),fun _ h=>(by cases h),fun _ h=>(by cases h),fun _ h=>(by cases h),fun _ h=>(by cases h),fun _ h=>(by cases h),fun _ h=>(by cases h)⟩
 case s1 =>
  refine dM.cons (fun f b u K hJ hf hc hu hs hK=>?_) ?_
  ·obtain ⟨hb,j0,j2,j3,j4,j5,j6,j7⟩:=hJ
   have f1:f 1=none:=hc.down 1 0 (by kernel_rfl) hf
   have f4:f 4=none:=hc.down 4 1 (by kernel_rfl) f1
   have dF:Below u.heap.size u (u.alloc (.cells (vI 80 67 67 84) 5)):=(Below.refl _ u).alloc (acE _) _
   refine yG rfl (.slice (some ⟨u.heap.size,0,none⟩) 4 4) (u':=u.alloc (.cells (vI 80 67 67 84) 5)) (by first|rfl|kernel_rfl) (hK _ _ ⟨hb.trans (dF.mono hb.size),?_,?_,?_,?_,?_,?_,?_⟩)
   ·intro v h
    simp only [Fill.upd,if_pos,Option.some.injEq] at h
    subst h
    refine ⟨_,rfl,fun _=>⟨hb.size,?_⟩,fun x hx=>?_⟩
    ·rw [show (f.upd 0 (.slice (some ⟨u.heap.size,0,none⟩) 4 4)) 1=none from f1]
     exact aG u _
    ·rw [show (f.upd 0 (.slice (some ⟨u.heap.size,0,none⟩) 4 4)) 1=none from f1] at hx
     cases hx
   ·exact fun v h=>j2 v h
   ·intro v h
    obtain ⟨g,rfl,h2⟩:=j3 v h
    exact ⟨g,rfl,fun k=>⟨(h2 k).1,Below.blk dF (h2 k).2 (aO (h2 k).2)⟩⟩
   ·exact fun v h k=>(j4 v h k).below dF
   ·exact fun v h=>j5 v h
   ·exact fun v h=>(j6 v h).below dF
   ·exact fun v h=>j7 v h
  refine dM.cons (fun f b u K hJ hf hc hu hs hK=>?_) ?_
  ·obtain ⟨hb,j0,j2,j3,j4,j5,j6,j7⟩:=hJ
   have f4:f 4=none:=hc.down 4 1 (by kernel_rfl) hf
   have f6:f 6=none:=hc.down 6 4 (by kernel_rfl) f4
   obtain ⟨v0,h0⟩:=sE (hu 0 (by kernel_rfl))
   obtain ⟨g,rfl,hg, -⟩:=j0 v0 h0
   obtain ⟨hg0,hg1⟩:=hg f4
   rw [hf] at hg1
   have e0:b.eval (.tmp 5) = .slice (some ⟨g,0,none⟩) 4 4:=hs.val 0 5 rfl h0
   obtain ⟨u9,hr9,hg9,nY⟩:=Tz u g 4 4 (vI 80 67 67 84) hg1
   have dF:Below wb.heap.size u u9:=⟨nY.os,nY.tape,nY.output,nY.size,fun k hk=>nY.block k (Nat.lt_of_lt_of_le hk hb.size) (by omega)⟩
   refine yG rfl (.slice (some ⟨g,0,none⟩) 4 4) (u':=u9) (by simp only [execOp,e0];exact Qv hr9) (hK _ _ ⟨hb.trans dF,?_,?_,?_,?_,?_,?_,?_⟩)
   ·intro v h
    have h:f 0=some v:=h
    rw [h0] at h
    cases h
    refine ⟨g,rfl,fun _=>⟨hg0,hg9⟩,fun x hx=>?_⟩
    simp only [Fill.upd,if_pos,Option.some.injEq] at hx
    exact hx.symm
   ·exact fun v h=>j2 v h
   ·intro v h
    obtain ⟨g3,rfl,h2⟩:=j3 v h
    refine ⟨g3,rfl,fun k=>⟨(h2 f4).1,nY.blk (h2 f4).2 (fun e=>?_)⟩⟩
    have e:g3=g:=e
    subst e
    have:=(h2 f4).2
    rw [hg1] at this
    simp [vI] at this
   ·intro v h k
    rw [show (f.upd 1 (.slice (some ⟨g,0,none⟩) 4 4)) 4=none from f4] at h
    cases h
   ·exact fun v h=>j5 v h
   ·intro v h
    rw [show (f.upd 1 (.slice (some ⟨g,0,none⟩) 4 4)) 6=none from f6] at h
    cases h
   ·exact fun v h=>j7 v h
  refine dM.cons (fun f b u K hJ hf hc hu hs hK=>?_) ?_
  ·obtain ⟨hb,j0,j2,j3,j4,j5,j6,j7⟩:=hJ
   have e0:b.eval (.tmp 0) = .int .i64 id:=hs.old' 0 (by kernel_rfl) rfl
   refine eF rfl (.int .i64 id) (by simp only [execOp,e0] <;> first|rfl|kernel_rfl) (hK _ _ ⟨hb,fun v h=>j0 v h,?_,fun v h=>j3 v h,fun v h=>j4 v h,fun v h=>j5 v h,fun v h=>j6 v h,fun v h=>j7 v h⟩)
   exact fun v h=>(by simp only [Fill.upd,if_pos,Option.some.injEq] at h;exact h.symm)
  refine dM.cons (fun f b u K hJ hf hc hu hs hK=>?_) ?_
  ·obtain ⟨hb,j0,j2,j3,j4,j5,j6,j7⟩:=hJ
   have f4:f 4=none:=hc.down 4 3 (by kernel_rfl) hf
   obtain ⟨v2,h2⟩:=sE (hu 2 (by kernel_rfl))
   obtain rfl:=j2 v2 h2
   have e2:b.eval (.tmp 7) = .int .i64 id:=hs.val 2 7 rfl h2
   have dF:Below u.heap.size u (u.alloc (.cells #[.int .i64 id] 3)):=(Below.refl _ u).alloc (acE _) _
   refine yG rfl (.slice (some ⟨u.heap.size,0,none⟩) 1 1) (u':=u.alloc (.cells #[.int .i64 id] 3)) (by simp only [execOp,List.map_toArray,List.map_cons,List.map_nil,e2] <;> first|rfl|kernel_rfl) (hK _ _ ⟨hb.trans (dF.mono hb.size),?_,?_,?_,?_,?_,?_,?_⟩)
   ·intro v h
    obtain ⟨g,rfl,h3,h4⟩:=j0 v h
    exact ⟨g,rfl,fun k=>⟨(h3 k).1,Below.blk dF (h3 k).2 (aO (h3 k).2)⟩,h4⟩
   ·exact fun v h=>j2 v h
   ·intro v h
    simp only [Fill.upd,if_pos,Option.some.injEq] at h
    subst h
    exact ⟨_,rfl,fun _=>⟨hb.size,aG u _⟩⟩
   ·exact fun v h k=>(j4 v h k).below dF
   ·exact fun v h=>j5 v h
   ·exact fun v h=>(j6 v h).below dF
   ·exact fun v h=>j7 v h
  refine dM.cons (fun f b u K hJ hf hc hu hs hK=>?_) ?_
  ·obtain ⟨hb,j0,j2,j3,j4,j5,j6,j7⟩:=hJ
   have f6:f 6=none:=hc.down 6 4 (by kernel_rfl) hf
   obtain ⟨v1,h1⟩:=sE (hu 1 (by kernel_rfl))
   obtain ⟨v0,h0⟩:=sE (hc.up 1 0 (by kernel_rfl) (by rw [h1];rfl))
   obtain ⟨g,rfl,hg,hx⟩:=j0 v0 h0
   obtain rfl:=hx v1 h1
   obtain ⟨v3,h3⟩:=sE (hu 3 (by kernel_rfl))
   obtain ⟨g3,rfl,hg3⟩:=j3 v3 h3
   have e1:b.eval (.tmp 6) = .slice (some ⟨g,0,none⟩) 4 4:=hs.val 1 6 rfl h1
   have e3:b.eval (.tmp 8) = .slice (some ⟨g3,0,none⟩) 1 1:=hs.val 3 8 rfl h3
   refine fQ rfl 26 [.tmp 6, .tmp 8] _ [.slice (some ⟨g,0,none⟩) 4 4, .slice (some ⟨g3,0,none⟩) 1 1] rfl (by simp only [List.map_cons,List.map_nil,e1,e3] <;> rfl) (fun _ _=>by kernel_rfl) ?_
   refine Calls.mono (HINT.out u g g3 (src4 (hg hf).2) (Vt (hg3 hf).2)) ?_
   rintro e w1 ⟨v,rfl,ho,dF⟩
   refine ⟨v,rfl,hK _ _ ⟨hb.trans (dF.mono hb.size),?_,fun v h=>j2 v h,?_,?_,fun v h=>j5 v h,?_,fun v h=>j7 v h⟩⟩
   ·intro v' h
    obtain ⟨g',e', -, h4⟩:=j0 v' h
    exact ⟨g',e',fun k=>(by simp [Fill.upd] at k),h4⟩
   ·intro v' h
    obtain ⟨g',e', -⟩:=j3 v' h
    exact ⟨g',e',fun k=>(by simp [Fill.upd] at k)⟩
   ·intro v' h _
    simp only [Fill.upd,if_pos,Option.some.injEq] at h
    subst h
    exact ho.mono hb.size
   ·intro v' h
    rw [show (f.upd 4 v) 6=none from f6] at h
    cases h
  refine dM.cons (fun f b u K hJ hf hc hu hs hK=>?_) ?_
  ·obtain ⟨hb,j0,j2,j3,j4,j5,j6,j7⟩:=hJ
   have e0:b.eval (.tmp 3) = .pointer (some ⟨w.heap.size,0,none⟩):=hs.old' 3 (by kernel_rfl) rfl
   refine eF rfl (.slice (some ⟨w.heap.size,0,none⟩) 32 32) (by simp only [execOp,e0,Option.map_none] <;> first|rfl|kernel_rfl|(go_simp;done)) (hK _ _ ⟨hb,fun v h=>j0 v h,fun v h=>j2 v h,fun v h=>j3 v h,fun v h=>j4 v h,?_,fun v h=>j6 v h,fun v h=>j7 v h⟩)
   exact fun v h=>(by simp only [Fill.upd,if_pos,Option.some.injEq] at h;exact h.symm)
  refine dM.cons (fun f b u K hJ hf hc hu hs hK=>?_) ?_
  ·obtain ⟨hb,j0,j2,j3,j4,j5,j6,j7⟩:=hJ
   have f7:f 7=none:=hc.down 7 6 (by kernel_rfl) hf
   obtain ⟨v4,h4⟩:=sE (hu 4 (by kernel_rfl))
   have ho:=j4 v4 h4 hf
   obtain ⟨v5,h5⟩:=sE (hu 5 (by kernel_rfl))
   obtain rfl:=j5 v5 h5
   have e4:b.eval (.tmp 9)=v4:=hs.val 4 9 rfl h4
   have e5:b.eval (.tmp 10) = .slice (some ⟨w.heap.size,0,none⟩) 32 32:=hs.val 5 10 rfl h5
   refine d9 rfl (.tmp 9) (.tmp 10) rfl wb.heap.size v4 T e4 ho (some ⟨w.heap.size,0,none⟩) 32 32 ks e5 (xJ.out.below hb) (by rw [Em.out];decide) hb.size ?_
   intro v2 w2 ho2 hg2 hn2 hq2
   have dF:Below wb.heap.size wb w2:=aQ ho hg2 hb hb.size
   refine hK _ _ ⟨dF,?_,fun v h=>j2 v h,?_,?_,fun v h=>j5 v h,?_,?_⟩
   ·intro v' h
    obtain ⟨g',e', -, h4'⟩:=j0 v' h
    exact ⟨g',e',fun k=>(by have k:f 4=none:=k;rw [h4] at k;cases k),h4'⟩
   ·intro v' h
    obtain ⟨g',e', -⟩:=j3 v' h
    exact ⟨g',e',fun k=>(by have k:f 4=none:=k;rw [h4] at k;cases k)⟩
   ·exact fun v' h k=>(by simp [Fill.upd] at k)
   ·intro v' h
    simp only [Fill.upd,if_pos,Option.some.injEq] at h
    subst h
    exact ho2
   ·intro v' h
    rw [show (f.upd 6 v2) 7=none from f7] at h
    cases h
  refine dM.cons (fun f b u K hJ hf hc hu hs hK=>?_) ?_
  ·obtain ⟨hb,j0,j2,j3,j4,j5,j6,j7⟩:=hJ
   obtain ⟨v6,h6⟩:=sE (hu 6 (by kernel_rfl))
   have e6:b.eval (.tmp 11)=v6:=hs.val 6 11 rfl h6
   refine eF rfl v6 (by simp only [execOp,e6] <;> first|rfl|kernel_rfl) (hK _ _ ⟨hb,fun v h=>j0 v h,fun v h=>j2 v h,fun v h=>j3 v h,fun v h k=>j4 v h k,fun v h=>j5 v h,fun v h=>j6 v h,?_⟩)
   intro v' h
   simp only [Fill.upd,if_pos,Option.some.injEq] at h
   subst h
   exact h6
  exact dM.nil
 case e1 =>
  intro f u hall hJ
  obtain ⟨hb,j0,j2,j3,j4,j5,j6,j7⟩:=hJ
  obtain ⟨v0,h0⟩:=sE (hall 0 (by decide))
  obtain ⟨v1,h1⟩:=sE (hall 1 (by decide))
  obtain ⟨v2,h2⟩:=sE (hall 2 (by decide))
  obtain ⟨v3,h3⟩:=sE (hall 3 (by decide))
  obtain ⟨v4,h4⟩:=sE (hall 4 (by decide))
  obtain ⟨v5,h5⟩:=sE (hall 5 (by decide))
  obtain ⟨v6,h6⟩:=sE (hall 6 (by decide))
  obtain ⟨v7,h7⟩:=sE (hall 7 (by decide))
  have e7:=j7 v7 h7
  rw [h6] at e7
  cases e7
  have HO:=acD (j6 v6 h6)
  have HB:=acD hb
  simp only [laid,h0,h1,h2,h3,h4,h5,h6,h7,Nat.reduceAdd,Act.put,sA,sZ,sS]
  clear j0 j2 j3 j4 j5 j6 j7 hb h0 h1 h2 h3 h4 h5 h6 h7 hall
  (try simp only [Exit.then])
  go_wp2_with fail
  go_ret
  exact ⟨_,rfl,HO.out.mono (acG kK.out),oW.out.trans (HB.out.mono (acG kK.out))⟩
end Go.Proofs.YthdgbgleklkaiaaDoor.Ce
