/- The document's Body of a manifest that may be. The document's Body, Pa. Condition: as each theorem says. -/

import Derived.Test.YthdgbgleklkaiaaGreatDoorQc33
import Derived.Test.YthdgbgleklkaiaaGreatDoorQc35
open Go.Lib renaming hid→abC
open List renaming length_append→abD
open Nat renaming le_refl→abE,lt_of_lt_of_le→abF,le_of_lt→abG,le_trans→abH
set_option linter.unusedSimpArgs false
set_option linter.unusedVariables false
set_option maxRecDepth 100000
set_option maxHeartbeats 16000000
namespace Go.Proofs.YthdgbgleklkaiaaGreatDoor.Mf
open Go.RowKit Lm Fp Cu Sl Sc Ce
theorem Fq {ro ks gs ss ws:List Int} (v b i:Int) (sw:Option Addr) (cw:Nat) (w:World) (h1:ro.length=32) (h2:ks.length=32) (h3:gs.length=64) (h4:ss.length=64) (hws:Src w sw 80 ws) (hm:iA v b 80 i=true) :
  Calls Tryz.prog 49 #[.agg (bg v b ro (.slice sw 80 cw) i ks gs ss)] w fun e w'=>∃ vv,e = .returned (.tuple #[vv, .int .i64 0])∧aU w' w.heap.size vv (dW v b ro ws i ks gs)∧Below w.heap.size w w':=by
 have hb0:(0≤v∧v≤2147483647)∧(1≤b∧b≤32)∧(0≤i∧i≤2147483647):=by simpa [iA,xJ,and_assoc] using hm
 have hwl:=hws.len
 have hp1:=fun (u:World) (g h c:Nat) (k1:Src u (some ⟨g,0,none⟩) 4 [80,67,77,49]) (k2:Br u (some ⟨h,0,none⟩) 2 [v,b])=>sW (some ⟨g,0,none⟩) (some ⟨h,0,none⟩) 4 c 2 2 [80,67,77,49] [v,b] u k1 k2 (by decide) (by decide) (by intro y hy;simp only [List.mem_cons,List.not_mem_nil,or_false] at hy;rcases hy with rfl|rfl <;> omega)
 have hp2:=fun (u:World) (T:List Int) (sa:Option Addr) (n c h:Nat) (k1:Src u sa n T) (k2:Br u (some ⟨h,0,none⟩) 1 [i]) (hn:n≤1000)=>sW sa (some ⟨h,0,none⟩) n c 1 1 T [i] u k1 k2 (by omega) (by decide) (by intro y hy;simp only [List.mem_singleton] at hy;subst hy;omega)
 have hl1:(iH [80,67,77,49] [v,b]).length=20:=by rw [gG];rfl
 obtain ⟨T1,hT1⟩:∃ T,T=iH [80,67,77,49] [v,b]:=⟨_,rfl⟩
 have hl3:(iH (T1 ++ ro ++ ws) [i]).length=140:=by rw [gG,abD,abD,hT1,hl1,h1,hwl];rfl
 obtain ⟨T3,hT3⟩:∃ T,T=iH (T1 ++ ro ++ ws) [i]:=⟨_,rfl⟩
 have hbd:dW v b ro ws i ks gs=T3 ++ ks ++ gs:=by rw [dW,hT3,hT1]
 rw [← hT1] at hl1
 simp only [← hT1] at hp1
 rw [← hT3] at hl3
 have hp3:=fun (u:World) (sa:Option Addr) (n c h:Nat) (k1:Src u sa n (T1 ++ ro ++ ws)) (k2:Br u (some ⟨h,0,none⟩) 1 [i]) (hn:n≤1000)=>hp2 u (T1 ++ ro ++ ws) sa n c h k1 k2 hn
 simp only [← hT3] at hp3
 rw [hbd]
 have m0:=rC (v:=v) (b:=b) (i:=i) (ro:=ro) (ks:=ks) (gs:=gs) (ss:=ss) (wv := .slice sw 80 cw)
 have m1:=pq (v:=v) (b:=b) (i:=i) (ro:=ro) (ks:=ks) (gs:=gs) (ss:=ss) (wv := .slice sw 80 cw)
 have m34:=lT (v:=v) (b:=b) (i:=i) (ks:=ks) (gs:=gs) (ss:=ss) (wv := .slice sw 80 cw) h1
 have m35:=tL (v:=v) (b:=b) (i:=i) (ks:=ks) (gs:=gs) (ss:=ss) (wv := .slice sw 80 cw) h1
 have mr:=FJ (v:=v) (b:=b) (i:=i) (ro:=ro) (ks:=ks) (gs:=gs) (ss:=ss) (wv := .slice sw 80 cw)
 have mk:=manC_ks (v:=v) (b:=b) (i:=i) (ks:=ks) (gs:=gs) (ss:=ss) (wv := .slice sw 80 cw) h1
 have mg:=manC_gs (v:=v) (b:=b) (i:=i) (gs:=gs) (ss:=ss) (wv := .slice sw 80 cw) h1 h2
 have UZ:=bL (v:=v) (b:=b) (i:=i) (wv := .slice sw 80 cw) h1 h2 h3 h4
 obtain ⟨M,hM⟩:∃ M,M=bg v b ro (.slice sw 80 cw) i ks gs ss:=⟨_,rfl⟩
 rw [← hM] at m0 m1 m34 m35 mr mk mg UZ ⊢
 have hb:=(Below.refl _ w).alloc (abE _) (.cells M 31)
 have hws2:=hws.below hb
 have hg0:(w.alloc (.cells M 31)).heap[w.heap.size]? = some (.cells M 31 (0,0)):=aH w _
 have hlt:w.heap.size < (w.alloc (.cells M 31)).heap.size:=by simp
 have hsr:∀ u:World,u.heap[w.heap.size]? = some (.cells M 31 (0,0))→Src u (some ⟨w.heap.size,2,none⟩) 32 ro∧Src u (some ⟨w.heap.size,36,none⟩) 32 ks∧Src u (some ⟨w.heap.size,68,none⟩) 64 gs:=by
  intro u h
  rw [← h1] at *
  refine ⟨sQ h 2 mr,?_,?_⟩
  ·have:=sQ h 36 mk
   rwa [h2] at this
  ·have:=sQ h 68 mg
   rwa [h3] at this
 have HP1:=abC hp1
 have Ki:=abC hp3
 have oH:=abC hl1
 have HL3:=abC hl3
 have iR:=abC h1
 have lH:=abC h2
 have U3:=abC h3
 have HM0:=abC m0
 have Em:=abC m1
 have Ol:=abC m34
 have HM35:=abC m35
 have Gm:=abC hsr
 have HW:=abC hws2
 have qV:=abC hwl
 have HG:=abC hg0
 have HB0:=abC hb
 have nC:=abC hlt
 have Oj:Hid ((Tryz.prog.info? 31).map (·.size)=some M.size):=abC (by rw [UZ];kernel_rfl)
 have n1:¬ b < 1:=by omega
 have n2:¬ (32:Int) < b:=by omega
 have hs1:=fun u=>gX v u
 have hs2:=fun u=>gX i u
 rw [show xJ v=true by simp [xJ];omega] at hs1
 rw [show xJ i=true by simp [xJ];omega] at hs2
 have iY:=abC hs1
 have HS2:=abC hs2
 clear hs1 hs2
 clear hp1 hp2 hp3 hl1 hl3 h1 h2 h3 h4 m0 m1 m34 m35 mr mk mg UZ hsr hws hws2 hwl hg0 hb hlt hM hbd hT1 hT3 hm hb0
 go_enter Tryz.func49, Tryz.ntmps49
 go_upto_region 1 with fail
 generalize w.alloc (.cells M 31)=wb at HW HG HB0 nC Gm ⊢
 have c0:wb.cell? ⟨w.heap.size,0,none⟩=some (.int .i64 v):=by rw [aF HG.out];exact HM0.out
 have c1:wb.cell? ⟨w.heap.size,1,none⟩=some (.int .i64 b):=by rw [aF HG.out];exact Em.out
 have c2:wb.cell? ⟨w.heap.size,34,none⟩=some (.slice sw 80 cw):=by rw [aF HG.out];exact Ol.out
 have c3:wb.cell? ⟨w.heap.size,35,none⟩=some (.int .i64 i):=by rw [aF HG.out];exact HM35.out
 go_upto_region 3 with (first|((with_reducible show Calls _ 87 #[.int .i64 v] _ _);go_at_call 87; refine (iY.out _).mono ?_;rintro e w' ⟨rfl,rfl⟩)|((with_reducible show Calls _ 87 #[.int .i64 i] _ _);go_at_call 87; refine (HS2.out _).mono ?_;rintro e w' ⟨rfl,rfl⟩))
 clear c0 c1 c2 c3
 have rV:=abC HG.out
 have HB1:=abC (Below.refl wb.heap.size wb)
 obtain ⟨w1,hw1⟩:∃ x:World,x=wb:=⟨_,rfl⟩
 rw [← hw1] at rV HB1 ⊢
 rw [hw1] at HB1
 have HB1:Hid (Below wb.heap.size wb w1):=abC (by rw [hw1];exact Below.refl _ _)
 clear hw1
 have kc:=conv4 w1 80 67 77 49
 have hz1:=HB1.out.size
 obtain ⟨w2,hw2⟩:∃ x,x=w1.alloc (.cells (Aa 80 67 77 49) 5 (4,5)):=⟨_,rfl⟩
 have hb2:Below w1.heap.size w1 w2:=by rw [hw2];exact (Below.refl _ w1).alloc (abE _) _
 have hs2:Src w2 (some ⟨w1.heap.size,0,none⟩) 4 [80,67,77,49]:=by rw [hw2];exact src4 (aH w1 _)
 rw [← hw2] at kc
 have HG2:=abC (Below.blk hb2 rV.out (aV rV.out))
 have hb3:=(Below.refl _ w2).alloc (abE _) (.cells #[.int .i64 v, .int .i64 b] 3)
 have HG3:=abC (Below.blk hb3 HG2.out (aV HG2.out))
 have HB3:=abC ((HB1.out.trans (hb2.mono hz1)).trans (hb3.mono (abH hz1 hb2.size)))
 have HQ:=abC (HP1.out _ _ _ 4 (hs2.below hb3) (VT w2 v b))
 have HZ3:Hid (wb.heap.size≤(w2.alloc (.cells #[.int .i64 v, .int .i64 b] 3)).heap.size):=abC HB3.out.size
 have c0:w2.cell? ⟨w.heap.size,0,none⟩=some (.int .i64 v):=by rw [aF HG2.out];exact HM0.out
 have c1:w2.cell? ⟨w.heap.size,1,none⟩=some (.int .i64 b):=by rw [aF HG2.out];exact Em.out
 unfold Aa at kc
 clear hw2 hb2 hs2 hb3 hz1
 go_upto_region 4 with ((with_reducible show Calls _ 92 _ _ _);go_at_call 92; refine HQ.out.mono ?_;rintro e w4 ⟨v4,rfl,ho,hb⟩;have HO4:=abC (ho.mono HZ3.out);have HG4:=abC (Below.blk hb HG3.out (aV HG3.out));have ou:=abC (HB3.out.trans (hb.mono HZ3.out));clear ho hb)
 clear kc c0 c1 HQ HZ3 HG3 HB3 HG2 rV HB1
 have k34:w4.cell? ⟨w.heap.size,34,none⟩=some (.slice sw 80 cw):=by rw [aF HG4.out];exact Ol.out
 refine wp_region_held_drew (S:=fun u=>Below wb.heap.size wb u∧u.cell? ⟨w.heap.size,34,none⟩=some (.slice sw 80 cw)) (by kernel_rfl) (⟨ou.out.drew,k34⟩) (fun hHeld=>?_)
 refine pT 0 ⟨some 40,_,_,_,_,none⟩ (v4) ?_
 (try simp only [Act.put,sA,sZ,sS])
 refine pT 1 ⟨some 41,_,_,_,_,none⟩ (.pointer (some ⟨w.heap.size,2,none⟩)) ?_
 (try simp only [Act.put,sA,sZ,sS])
 refine pT 2 ⟨some 42,_,_,_,_,none⟩ (.slice (some ⟨w.heap.size,2,none⟩) 32 32) ?_
 (try simp only [Act.put,sA,sZ,sS])
 refine pT 4 ⟨some 44,_,_,_,_,none⟩ (.pointer (some ⟨w.heap.size,34,none⟩)) ?_
 (try simp only [Act.put,sA,sZ,sS])
 refine wpAnyH_take (i:=5) (oi:=(⟨some 45,_,_,_,_,none⟩:Oper)) (v := .slice sw 80 cw) rfl (by kernel_rfl) (by kernel_rfl) (by kernel_rfl) (fun _ _ _ h=>h) (Or.inl ⟨by rfl,?Ar⟩) (by assumption) ?yh
 case Ar=>(intro u aR;(try dsimp only at aR);obtain ⟨-, k0⟩:=aR;go_simp;try (with_reducible rfl))
 (try simp only [Act.put,sA,sZ,sS])
 refine pR 3 ⟨some 43,_,_,_,_,none⟩ (fun K hK=>?_)
 have hsr4:=(Gm.out w4.drew HG4.out).1
 refine fM rfl (.tmp 40) (.tmp 42) rfl wb.heap.size v4 T1 rfl HO4.out (some ⟨w.heap.size,2,none⟩) 32 32 ro rfl hsr4 (by rw [oH.out];decide) ou.out.size ?_
 intro v5 w5 how hgr _ _
 have UO:=abC how
 have hb5:=aZ HO4.out.drew hgr ou.out.drew ou.out.size
 have gy:=abC hb5
 have HG5:Hid (w5.heap[w.heap.size]? = some (.cells M 31 (0,0))):=abC (by rw [hb5.block _ nC.out];exact HG.out)
 clear how hgr hb5 hsr4
 have k35:w5.cell? ⟨w.heap.size,34,none⟩=some (.slice sw 80 cw):=by rw [aF HG5.out];exact Ol.out
 refine hK.out _ _ (⟨gy.out,k35⟩) (fun hHeld=>?_)
 clear hK K
 (try simp only [Act.put,sA,sZ,sS])
 refine pR 6 ⟨some 46,_,_,_,_,none⟩ (fun K hK=>?_)
 refine fM rfl (.tmp 43) (.tmp 45) rfl wb.heap.size v5 (T1 ++ ro) rfl UO.out sw 80 cw ws rfl (HW.out.below gy.out) (by rw [abD,oH.out,iR.out];decide) gy.out.size ?_
 intro v6 w6 how hgr _ _
 have Gr:=abC how
 have hb6:=aZ UO.out hgr gy.out gy.out.size
 have mH:=abC hb6
 have Cn:Hid (w6.heap[w.heap.size]? = some (.cells M 31 (0,0))):=abC (by rw [hb6.block _ nC.out];exact HG.out)
 clear how hgr hb6
 have k36:w6.cell? ⟨w.heap.size,34,none⟩=some (.slice sw 80 cw):=by rw [aF Cn.out];exact Ol.out
 refine hK.out _ _ (⟨mH.out,k36⟩) (fun hHeld=>?_)
 clear hK K
 (try simp only [Act.put,sA,sZ,sS])
 refine pT 7 ⟨some 4,_,_,_,_,none⟩ (v6) ?_
 (try simp only [Act.put,sA,sZ,sS])
 refine wpAnyH_done (by kernel_rfl) ?_ _
 (try simp only [Exit.then])
 clear k34 k35 k36 hHeld
 have hl6:(T1 ++ ro ++ ws).length=132:=by rw [abD,abD,oH.out,iR.out,qV.out]
 obtain ⟨s6,c6,e6, -, -, hs6, -⟩:=Gr.out.form
 rw [hl6] at e6 hs6
 subst e6
 have HS6:=abC hs6
 clear hl6 hs6
 have c3:w6.cell? ⟨w.heap.size,35,none⟩=some (.int .i64 i):=by rw [aF Cn.out];exact HM35.out
 have jh:=(Below.refl _ w6).alloc (abE _) (.cells #[.int .i64 i] 3)
 have fC:=abC (mH.out.trans (jh.mono mH.out.size))
 have HG7:=abC (Below.blk jh Cn.out (aV Cn.out))
 have HQ7:=abC (Ki.out _ s6 132 c6 _ (HS6.out.below jh) (Iy w6 i) (by decide))
 clear jh
 go_upto_region 6 with ((with_reducible show Calls _ 92 _ _ _);go_at_call 92; refine HQ7.out.mono ?_;rintro e w8 ⟨v8,rfl,ho,hb⟩;have HO8:=abC (ho.mono fC.out.size);have gu:=abC (fC.out.trans (hb.mono fC.out.size));have U4:=abC (Below.blk hb HG7.out (aV HG7.out));clear ho hb)
 clear c3
 refine wp_region_held_drew (S:=fun u=>Below wb.heap.size wb u) (by kernel_rfl) (gu.out.drew) (fun hHeld=>?_)
 refine pT 0 ⟨some 53,_,_,_,_,none⟩ (v8) ?_
 (try simp only [Act.put,sA,sZ,sS])
 refine pT 1 ⟨some 54,_,_,_,_,none⟩ (.pointer (some ⟨w.heap.size,35,none⟩)) ?_
 (try simp only [Act.put,sA,sZ,sS])
 refine pT 2 ⟨some 55,_,_,_,_,none⟩ (.pointer (some ⟨w.heap.size,36,none⟩)) ?_
 (try simp only [Act.put,sA,sZ,sS])
 refine pT 3 ⟨some 56,_,_,_,_,none⟩ (.slice (some ⟨w.heap.size,36,none⟩) 32 32) ?_
 (try simp only [Act.put,sA,sZ,sS])
 refine pT 5 ⟨some 58,_,_,_,_,none⟩ (.pointer (some ⟨w.heap.size,35,none⟩)) ?_
 (try simp only [Act.put,sA,sZ,sS])
 refine pT 6 ⟨some 59,_,_,_,_,none⟩ (.pointer (some ⟨w.heap.size,68,none⟩)) ?_
 (try simp only [Act.put,sA,sZ,sS])
 refine pT 7 ⟨some 60,_,_,_,_,none⟩ (.slice (some ⟨w.heap.size,68,none⟩) 64 64) ?_
 (try simp only [Act.put,sA,sZ,sS])
 refine pR 4 ⟨some 57,_,_,_,_,none⟩ (fun K hK=>?_)
 have hsr8:=(Gm.out w8.drew U4.out).2.1
 refine fM rfl (.tmp 53) (.tmp 56) rfl wb.heap.size v8 T3 rfl HO8.out (some ⟨w.heap.size,36,none⟩) 32 32 ks rfl hsr8 (by rw [HL3.out];decide) gu.out.size ?_
 intro v9 w9 how hgr _ _
 have HO9:=abC how
 have dP:=aZ HO8.out.drew hgr gu.out.drew gu.out.size
 have oN:=abC dP
 have HG9:Hid (w9.heap[w.heap.size]? = some (.cells M 31 (0,0))):=abC (by rw [dP.block _ nC.out];exact HG.out)
 clear how hgr dP hsr8
 refine hK.out _ _ (oN.out) (fun hHeld=>?_)
 clear hK K
 (try simp only [Act.put,sA,sZ,sS])
 refine pR 8 ⟨some 61,_,_,_,_,none⟩ (fun K hK=>?_)
 have hsr9:=(Gm.out _ HG9.out).2.2
 refine fM rfl (.tmp 57) (.tmp 60) rfl wb.heap.size v9 (T3 ++ ks) rfl HO9.out (some ⟨w.heap.size,68,none⟩) 64 64 gs rfl hsr9 (by rw [abD,HL3.out,lH.out];decide) oN.out.size ?_
 intro v10 w10 how hgr _ _
 have EU:=abC how
 have HB10:=abC (aZ HO9.out hgr oN.out oN.out.size)
 clear how hgr hsr9
 refine hK.out _ _ (HB10.out) (fun hHeld=>?_)
 clear hK K
 (try simp only [Act.put,sA,sZ,sS])
 refine pT 9 ⟨some 2,_,_,_,_,none⟩ (v10) ?_
 (try simp only [Act.put,sA,sZ,sS])
 refine pT 10 ⟨some 3,_,_,_,_,none⟩ (.int .i64 0) ?_
 (try simp only [Act.put,sA,sZ,sS])
 refine wpAnyH_done (by kernel_rfl) ?_ _
 (try simp only [Exit.then])
 go_wp2_with fail
 all_goals (try simp only [Exit.then])
 go_ret2
 exact ⟨_,rfl,EU.out.mono (abG nC.out),HB0.out.trans (HB10.out.mono (abG nC.out))⟩
end Go.Proofs.YthdgbgleklkaiaaGreatDoor.Mf
namespace Go.Proofs.YthdgbgleklkaiaaGreatDoor.Mf
open Go.RowKit Lm Fp Cu Sl Sc Ce
theorem Fu {ro ks gs ss:List Int} (v b i:Int) (sw:Option Addr) (nw cw:Nat) (w:World) (h1:ro.length=32) (h2:ks.length=32) (h3:gs.length=64) (h4:ss.length=64) (hm:iA v b nw i=false) :
  Calls Tryz.prog 49 #[.agg (bg v b ro (.slice sw nw cw) i ks gs ss)] w fun e w'=>e = .returned (.tuple #[.slice none 0 0, .int .i64 1])∧Below w.heap.size w w':=by
 have c0:(w.alloc (.cells (bg v b ro (.slice sw nw cw) i ks gs ss) 31)).cell? ⟨w.heap.size,0,none⟩=some (.int .i64 v):=by rw [aF (aH w _)];exact rC
 have c1:(w.alloc (.cells (bg v b ro (.slice sw nw cw) i ks gs ss) 31)).cell? ⟨w.heap.size,1,none⟩=some (.int .i64 b):=by rw [aF (aH w _)];exact pq
 have c2:(w.alloc (.cells (bg v b ro (.slice sw nw cw) i ks gs ss) 31)).cell? ⟨w.heap.size,34,none⟩=some (.slice sw nw cw):=by rw [aF (aH w _)];exact lT h1
 have c3:(w.alloc (.cells (bg v b ro (.slice sw nw cw) i ks gs ss) 31)).cell? ⟨w.heap.size,35,none⟩=some (.int .i64 i):=by rw [aF (aH w _)];exact tL h1
 have HB:=abC ((Below.refl _ w).alloc (abE _) (.cells (bg v b ro (.slice sw nw cw) i ks gs ss) 31))
 have hs1:=fun u=>gX v u
 have hs2:=fun u=>gX i u
 have HS2:=abC hs2
 clear h1 h2 h3 h4 hs2
 generalize bg v b ro (.slice sw nw cw) i ks gs ss=M at c0 c1 c2 c3 HB ⊢
 cases hv:xJ v with
 | false =>
  rw [hv] at hs1
  have iY:=abC hs1
  clear hs1 hm
  go_enter Tryz.func49, Tryz.ntmps49
  go_wp2_with (first|((with_reducible show Calls _ 87 #[.int .i64 v] _ _);go_at_call 87; refine (iY.out _).mono ?_;rintro e w' ⟨rfl,rfl⟩)|((with_reducible show Calls _ 87 #[.int .i64 i] _ _);go_at_call 87; refine (HS2.out _).mono ?_;rintro e w' ⟨rfl,rfl⟩))
  all_goals (try simp only [Exit.then])
  go_ret2
  exact ⟨rfl,HB.out⟩
 | true =>
  rw [hv] at hs1
  have iY:=abC hs1
  clear hs1
  by_cases hb1:b < 1
  ·clear hm
   go_enter Tryz.func49, Tryz.ntmps49
   go_wp2_with (first|((with_reducible show Calls _ 87 #[.int .i64 v] _ _);go_at_call 87; refine (iY.out _).mono ?_;rintro e w' ⟨rfl,rfl⟩)|((with_reducible show Calls _ 87 #[.int .i64 i] _ _);go_at_call 87; refine (HS2.out _).mono ?_;rintro e w' ⟨rfl,rfl⟩))
   all_goals (try simp only [Exit.then])
   go_ret2
   exact ⟨rfl,HB.out⟩
  ·by_cases hb2:(32:Int) < b
   ·clear hm
    go_enter Tryz.func49, Tryz.ntmps49
    go_wp2_with (first|((with_reducible show Calls _ 87 #[.int .i64 v] _ _);go_at_call 87; refine (iY.out _).mono ?_;rintro e w' ⟨rfl,rfl⟩)|((with_reducible show Calls _ 87 #[.int .i64 i] _ _);go_at_call 87; refine (HS2.out _).mono ?_;rintro e w' ⟨rfl,rfl⟩))
    all_goals (try simp only [Exit.then])
    go_ret2
    exact ⟨rfl,HB.out⟩
   ·by_cases hn:nw=80
    ·subst hn
     have hi:xJ i=false:=by
      cases h:xJ i with
      | false=>rfl
      | true=>exfalso;simp [iA,hv,h] at hm;omega
     have hs2:=HS2.out
     rw [hi] at hs2
     have HS2:=abC hs2
     clear hm hs2
     go_enter Tryz.func49, Tryz.ntmps49
     go_wp2_with (first|((with_reducible show Calls _ 87 #[.int .i64 v] _ _);go_at_call 87; refine (iY.out _).mono ?_;rintro e w' ⟨rfl,rfl⟩)|((with_reducible show Calls _ 87 #[.int .i64 i] _ _);go_at_call 87; refine (HS2.out _).mono ?_;rintro e w' ⟨rfl,rfl⟩))
     all_goals (try simp only [Exit.then])
     go_ret2
     exact ⟨rfl,HB.out⟩
    ·have hn2:((nw:Int) == 80)=false:=by rw [beq_eq_false_iff_ne];omega
     clear hm
     go_enter Tryz.func49, Tryz.ntmps49
     go_wp2_with (first|((with_reducible show Calls _ 87 #[.int .i64 v] _ _);go_at_call 87; refine (iY.out _).mono ?_;rintro e w' ⟨rfl,rfl⟩)|((with_reducible show Calls _ 87 #[.int .i64 i] _ _);go_at_call 87; refine (HS2.out _).mono ?_;rintro e w' ⟨rfl,rfl⟩))
     all_goals (try simp only [Exit.then])
     go_ret2
     exact ⟨rfl,HB.out⟩
theorem uV {ro ks gs ss ws:List Int} (v b i:Int) (sw:Option Addr) (nw cw:Nat) (w:World) (h1:ro.length=32) (h2:ks.length=32) (h3:gs.length=64) (h4:ss.length=64) (hws:Src w sw nw ws) :
  Calls Tryz.prog 49 #[.agg (bg v b ro (.slice sw nw cw) i ks gs ss)] w fun e w'=>∃ vv,e = .returned (.tuple #[vv, .int .i64 (if iA v b nw i then 0 else 1)])∧aU w' w.heap.size vv (if iA v b nw i then dW v b ro ws i ks gs else [])∧Below w.heap.size w w':=by
 cases hm:iA v b nw i with
 | true =>
  have h80:nw=80:=by
   have h:=hm
   simp only [iA,Bool.and_eq_true,decide_eq_true_eq] at h
   exact h.1.2
  subst h80
  exact Fq v b i sw cw w h1 h2 h3 h4 hws hm
 | false =>
  refine (Fu v b i sw nw cw w h1 h2 h3 h4 hm).mono ?_
  rintro e w' ⟨rfl,hb⟩
  exact ⟨_,rfl,aU.nil _ _,hb⟩
theorem Sj {ro ks gs ss ws:List Int} (v b i:Int) (sw:Option Addr) (nw cw:Nat) (w:World) (h1:ro.length=32) (h2:ks.length=32) (h3:gs.length=64) (h4:ss.length=64) (hws:Src w sw nw ws) :
  Calls Tryz.prog 61 #[.agg (bg v b ro (.slice sw nw cw) i ks gs ss)] w fun e w'=>∃ vv,e = .returned (.tuple #[vv, .int .i64 (if iA v b nw i then 0 else 1)])∧aU w' w.heap.size vv (if iA v b nw i then dW v b ro ws i ks gs ++ ss else [])∧Below w.heap.size w w':=by
 have hb:=(Below.refl _ w).alloc (abE _) (.cells (bg v b ro (.slice sw nw cw) i ks gs ss) 31)
 have tX:=fun (u:World) (k:Below (w.alloc (.cells (bg v b ro (.slice sw nw cw) i ks gs ss) 31)).heap.size (w.alloc (.cells (bg v b ro (.slice sw nw cw) i ks gs ss) 31)) u)=>uV (ks:=ks) (gs:=gs) (ss:=ss) v b i sw nw cw u h1 h2 h3 h4 ((hws.below hb).below k)
 have UZ:=bL (v:=v) (b:=b) (i:=i) (wv := .slice sw nw cw) h1 h2 h3 h4
 have mg:=yC (v:=v) (b:=b) (i:=i) (ss:=ss) (wv := .slice sw nw cw) h1 h2 h3
 have hbl:iA v b nw i=true→(dW v b ro ws i ks gs).length≤300:=by
  intro h
  simp only [iA,Bool.and_eq_true,decide_eq_true_eq] at h
  have:=hws.len
  rw [dW,abD,abD,gG,abD,abD,gG,h1,h2,h3,this,h.1.2]
  simp
 obtain ⟨M,hM⟩:∃ M,M=bg v b ro (.slice sw nw cw) i ks gs ss:=⟨_,rfl⟩
 rw [← hM] at hb tX UZ mg ⊢
 generalize dW v b ro ws i ks gs=T at tX hbl ⊢
 have hg0:(w.alloc (.cells M 31)).heap[w.heap.size]? = some (.cells M 31 (0,0)):=aH w _
 have HG:=abC hg0
 have HB:=abC hb
 have nC:Hid (w.heap.size < (w.alloc (.cells M 31)).heap.size):=abC (by simp)
 have Oj:Hid ((Tryz.prog.info? 31).map (·.size)=some M.size):=abC (by rw [UZ];kernel_rfl)
 have HMG:=abC mg
 have Kk:=abC tX
 have HSL:=abC h4
 clear hg0 hb UZ mg tX hM h1 h2 h3 h4 hws
 cases hm:iA v b nw i with
 | false =>
  rw [hm] at Kk
  clear hbl
  go_enter Tryz.func61, Tryz.ntmps61
  go_upto_region 1 with fail
  generalize w.alloc (.cells M 31)=wb at HG HB nC Kk ⊢
  go_wp2_with (first|((with_reducible refine aS 7 ?_);refine wpList_load_row rfl 31 _ rfl (w.heap.size) rfl 31 _ (0,0) _ HG.out Tryz.underlying31 rfl Oj.out ?_)|((with_reducible show Calls _ 49 _ _ _);go_at_call 49; refine (Kk.out _ (Below.refl _ _)).mono ?_;rintro e w1 ⟨v1,rfl,ho,hb1⟩;have HB1:=abC (HB.out.trans (hb1.mono HB.out.size));clear ho hb1))
  all_goals (try simp only [Exit.then])
  go_ret2
  exact ⟨_,rfl,aU.nil _ _,HB1.out⟩
 | true =>
  rw [hm] at Kk
  have uD:=abC (hbl hm)
  clear hbl
  go_enter Tryz.func61, Tryz.ntmps61
  go_upto_region 1 with fail
  generalize w.alloc (.cells M 31)=wb at HG HB nC Kk ⊢
  go_wp2_with (first|((with_reducible refine aS 7 ?_);refine wpList_load_row rfl 31 _ rfl (w.heap.size) rfl 31 _ (0,0) _ HG.out Tryz.underlying31 rfl Oj.out ?_)|((with_reducible show Calls _ 49 _ _ _);go_at_call 49; refine (Kk.out _ (Below.refl _ _)).mono ?_;rintro e w1 ⟨v1,rfl,ho,hb1⟩;have HO:=abC ho;have HB1:=abC hb1;have Gm:Hid (Src w1 (some ⟨w.heap.size,132,none⟩) 64 ss):=abC (by have:=sQ (Below.blk hb1 HG.out (aV HG.out)) 132 HMG.out;rwa [HSL.out] at this);clear ho hb1)|((with_reducible refine aS 17 ?_);refine aX rfl (.tmp 14) (.tmp 16) rfl wb.heap.size v1 T rfl HO.out (some ⟨w.heap.size,132,none⟩) 64 64 ss rfl Gm.out (by have:=uD.out;omega) HB1.out.size ?_;intro v2 w2 how hgr _ _;have xV:=abC how;have HB2:=abC (aZ HO.out hgr HB1.out HB1.out.size);clear how hgr))
  all_goals (try simp only [Exit.then])
  go_ret2
  exact ⟨_,rfl,xV.out.mono (abG nC.out),HB.out.trans (HB2.out.mono (abG nC.out))⟩
end Go.Proofs.YthdgbgleklkaiaaGreatDoor.Mf
namespace Go.Proofs.YthdgbgleklkaiaaGreatDoor.Mf
open Go.RowKit Lm Fp Cu Sl Sc Ce
theorem KI {sd ro ks gs ss ws:List Int} (seed:Nat) (v b i:Int) (sw:Option Addr) (nw cw:Nat) (w:World) (hsd:NU sd seed) (h1:ro.length=32) (h2:ks.length=32) (h3:gs.length=64) (h4:ss.length=64) (hws:Src w sw nw ws) (b1:bytes ro) (b2:bytes ks) (b3:bytes gs) (b4:bytes ws) (hT:NQ w) :
  Calls Tryz.prog 23 #[.agg (arr .u8 sd), .agg (bg v b ro (.slice sw nw cw) i ks gs ss)] w fun e w'=>∃ M E,e = .returned (.tuple #[.agg M, .int .i64 E])∧((iA v b nw i=true∧E=0∧∃ s c,M=bg v b ro (.slice s nw c) i ks gs (kH seed (dW v b ro ws i ks gs))∧aU w' w.heap.size (.slice s nw c) ws)∨(iA v b nw i=false∧E=1∧M=gI))∧Below w.heap.size w w':=by
 have hwl:=hws.len
 have tX:=fun (u:World) (k:Src u sw nw ws)=>uV (ks:=ks) (gs:=gs) (ss:=ss) v b i sw nw cw u h1 h2 h3 h4 k
 have UZ:=bL (v:=v) (b:=b) (i:=i) (wv := .slice sw nw cw) h1 h2 h3 h4
 have m34:=lT (v:=v) (b:=b) (i:=i) (ks:=ks) (gs:=gs) (ss:=ss) (wv := .slice sw nw cw) h1
 have hbb:bytes (dW v b ro ws i ks gs):=by
  unfold dW
  intro x hx
  rcases List.mem_append.1 hx with hx|hx
  ·rcases List.mem_append.1 hx with hx|hx
   ·refine jY ?_ x hx
    intro y hy
    rcases List.mem_append.1 hy with hy|hy
    ·rcases List.mem_append.1 hy with hy|hy
     ·exact jY (by unfold bytes;decide) y hy
     ·exact b1 y hy
    ·exact b4 y hy
   ·exact b2 x hx
  ·exact b3 x hx
 have hset:∀ x:Value,(bg v b ro (.slice sw nw cw) i ks gs ss).setIfInBounds 34 x=bg v b ro x i ks gs ss:=fun x=>rA h1 x
 have hput:∀ (x:Value) (g2:List Int),g2.length=64→((bg v b ro x i ks gs ss).toList.take 132 ++ (arr .u8 g2).toList ++ (bg v b ro x i ks gs ss).toList.drop (132+(arr .u8 g2).size)).toArray=bg v b ro x i ks gs g2:=fun x g2 hg=>o9 h1 h2 h3 h4 hg
 have hsz2:∀ (x:Value) (g2:List Int),g2.length=64→(bg v b ro x i ks gs g2).size=196:=fun x g2 hg=>bL h1 h2 h3 hg
 obtain ⟨M,hM⟩:∃ M,M=bg v b ro (.slice sw nw cw) i ks gs ss:=⟨_,rfl⟩
 rw [← hM] at tX UZ m34 hset ⊢
 obtain ⟨mz,hmz⟩:∃ m,m=gI:=⟨_,rfl⟩
 rw [← hmz]
 have UD:Hid (mz.size=196):=abC (by rw [hmz];exact bL rfl rfl rfl rfl)
 have NV:Hid (mz.all (·.oneCell')=true):=abC (by rw [hmz];exact gH rfl)
 have yK:Hid ((Tryz.prog.info? 31).map (·.size)=some mz.size):=abC (by rw [UD.out];exact dU)
 have HZ:Hid (∀ w,(zeroValue 31).run Tryz.prog w = .ok (.agg mz) w):=abC (by rw [hmz];exact jS)
 have HZ0:Hid (∀ w,(Instr.build 31 #[]).run Tryz.prog w = .ok (.agg mz) w):=abC (by rw [hmz];exact rJ)
 have Oj:Hid ((Tryz.prog.info? 31).map (·.size)=some M.size):=abC (by rw [UZ];exact dU)
 have HSL:=abC hsd.len
 have hb0:=(((Below.refl _ w).alloc (abE _) (.cells (arr .u8 sd) 25)).alloc (by simp) (.cells M 31)).alloc (by simp;omega) (.cells mz 31)
 have HG0:Hid ((((w.alloc (.cells (arr .u8 sd) 25)).alloc (.cells M 31)).alloc (.cells mz 31)).heap[w.heap.size]? = some (.cells (arr .u8 sd) 25 (0,0))):=abC (aY (aY (aH w _) _) _)
 have rV:Hid ((((w.alloc (.cells (arr .u8 sd) 25)).alloc (.cells M 31)).alloc (.cells mz 31)).heap[w.heap.size+1]? = some (.cells M 31 (0,0))):=abC (by have:=aY (aH (w.alloc (.cells (arr .u8 sd) 25)) (.cells M 31)) (.cells mz 31);rwa [World.size_alloc] at this)
 have HG2:Hid ((((w.alloc (.cells (arr .u8 sd) 25)).alloc (.cells M 31)).alloc (.cells mz 31)).heap[w.heap.size+1+1]? = some (.cells mz 31 (0,0))):=abC (by have:=aH ((w.alloc (.cells (arr .u8 sd) 25)).alloc (.cells M 31)) (.cells mz 31);rwa [World.size_alloc,World.size_alloc] at this)
 have HB:=abC hb0
 have Bw:=abC (hws.below hb0)
 have nC:Hid (w.heap.size+1+1 < (((w.alloc (.cells (arr .u8 sd) 25)).alloc (.cells M 31)).alloc (.cells mz 31)).heap.size):=abC (by simp)
 cases hm:iA v b nw i with
 | false =>
  rw [hm] at tX
  have Kk:=abC tX
  clear hwl tX UZ m34 hbb hset hput hsz2 hM hmz hb0 hsd h1 h2 h3 h4 hws b1 b2 b3 b4 hT hm
  simp only [Bool.false_eq_true,false_and,false_or,true_and]
  go_enter Tryz.func23, Tryz.ntmps23
  go_upto_region 1 with ((with_reducible refine aS 4 ?_);refine ah rfl 31 rfl _ (HZ.out _) ?_)
  (try simp only [World.size_alloc,Act.put,sA,sZ,sS])
  generalize (((w.alloc (.cells (arr .u8 sd) 25)).alloc (.cells M 31)).alloc (.cells mz 31))=wb at HG0 rV HG2 HB Bw nC ⊢
  go_wp2_with (first|((with_reducible refine aS 9 ?_);refine wpList_load_row rfl 31 _ rfl (w.heap.size+1) rfl 31 _ (0,0) _ rV.out Tryz.underlying31 rfl Oj.out ?_)|((with_reducible show Calls _ 49 _ _ _);go_at_call 49; refine (Kk.out _ Bw.out).mono ?_;rintro e w1 ⟨v1,rfl,ho,hb1⟩;have HB1:=abC hb1;have HR1:=abC (Below.blk hb1 HG2.out nC.out);clear ho hb1)|((with_reducible refine aS 15 ?_);refine wpList_build (by rfl) 31 _ rfl #[] rfl _ (HZ0.out _) ?_)|((with_reducible refine aT 4 ?_);refine au rfl 31 _ _ rfl (w.heap.size+1+1) _ _ 31 HR1.out rfl rfl rfl yK.out NV.out ?_;intro w2 hb hk hz;have HB2:=abC hb;have wI:=abC hk;clear hb hk hz))
  all_goals (try simp only [Exit.then])
  refine bodyPost_ret (aN rfl _ _ (w.heap.size+1+1) 31 _ (0,0) _ _ rfl HB2.out Tryz.underlying31 rfl yK.out rfl) rfl ?_
  exact ⟨_,_,rfl,⟨rfl,rfl⟩,HB.out.trans ⟨wI.out.os.trans HB1.out.os,wI.out.tape.trans HB1.out.tape,wI.out.output.trans HB1.out.output,abH HB1.out.size wI.out.size,fun k hk=>(wI.out.block k (abF (abF hk HB.out.size) HB1.out.size) (fun e=>by have e:k=w.heap.size+1+1:=e;omega)).trans (HB1.out.block k (abF hk HB.out.size))⟩⟩
 | true =>
  obtain rfl:nw=80:=by
   simp only [iA,Bool.and_eq_true,decide_eq_true_eq] at hm
   exact hm.1.2
  rw [hm] at tX
  have hbl:(dW v b ro ws i ks gs).length=236:=by
   rw [dW,abD,abD,gG,abD,abD,gG,h1,h2,h3,hwl]
   rfl
  have hsg:=fun (u:World) (s:Option Addr) (c:Nat) (k:Src u s 236 (dW v b ro ws i ks gs)) (kc:236≤c) (t:NQ u)=>Rd.Di seed s 236 c u k kc hbb (by decide) t.d t.x t.y t.q t.k
  rw [show n32 seed=sd by rw [n32,← hsd.1]] at hsg
  have hgl:(kH seed (dW v b ro ws i ks gs)).length=64:=gZ _ _
  have UG:=abC (fun (u:World) (k:Below w.heap.size w u)=>NQ.below hT k)
  generalize kH seed (dW v b ro ws i ks gs)=sg at hsg hgl ⊢
  generalize dW v b ro ws i ks gs=T at tX hbl hsg
  have Kk:=abC tX
  have qM:=abC hbl
  have HSG:=abC hsg
  have U3:=abC hgl
  have Ol:=abC m34
  have HSET:=abC hset
  have HPUT:Hid (∀ x:Value,((bg v b ro x i ks gs ss).toList.take 132 ++ (arr .u8 sg).toList ++ (bg v b ro x i ks gs ss).toList.drop (132+(arr .u8 sg).size)).toArray=bg v b ro x i ks gs sg):=abC (fun x=>hput x sg hgl)
  have Oe:Hid (∀ x:Value,132+(arr .u8 sg).size≤(bg v b ro x i ks gs ss).size):=abC (fun x=>by rw [aD,hgl,hsz2 x ss h4];omega)
  have yP:Hid (∀ x:Value,(Tryz.prog.info? 31).map (·.size)=some (bg v b ro x i ks gs sg).size):=abC (fun x=>by rw [hsz2 x sg hgl];exact dU)
  have HFS:Hid (∀ x:Value,(bg v b ro x i ks gs sg).size=mz.size):=abC (fun x=>by rw [hsz2 x sg hgl,UD.out])
  have HFO:Hid (∀ s c,(bg v b ro (.slice s 80 c) i ks gs sg).all (·.oneCell')=true):=abC (fun s c=>gH rfl)
  have qV:=abC hwl
  clear hwl tX UZ m34 hbb hset hput hsz2 hM hmz hb0 hsd h1 h2 h3 h4 hws b1 b2 b3 b4 hT hm hbl hsg hgl
  simp only [Bool.true_eq_false,false_and,or_false,true_and]
  go_enter Tryz.func23, Tryz.ntmps23
  go_upto_region 1 with ((with_reducible refine aS 4 ?_);refine ah rfl 31 rfl _ (HZ.out _) ?_)
  (try simp only [World.size_alloc,Act.put,sA,sZ,sS])
  generalize (((w.alloc (.cells (arr .u8 sd) 25)).alloc (.cells M 31)).alloc (.cells mz 31))=wb at HG0 rV HG2 HB Bw nC ⊢
  go_upto_region 5 with (first|((with_reducible refine aS 9 ?_);refine wpList_load_row rfl 31 _ rfl (w.heap.size+1) rfl 31 _ (0,0) _ rV.out Tryz.underlying31 rfl Oj.out ?_)|((with_reducible show Calls _ 49 _ _ _);go_at_call 49; refine (Kk.out _ Bw.out).mono ?_;rintro e w1 ⟨v1,rfl,ho,hb1⟩;have HV1:Hid (aU w1 wb.heap.size v1 T):=abC ho;have HB1:=abC hb1;have HSW1:=abC (Bw.out.below hb1);have D6:w1.cell? ⟨w.heap.size+1,34,none⟩=some (.slice sw 80 cw):=(by rw [aF (Below.blk hb1 rV.out (aV rV.out))];exact Ol.out);clear ho hb1)|((with_reducible refine aS 19 ?_);refine aX rfl (.const (.slice none 0 0)) (.tmp 18) rfl wb.heap.size (.slice none 0 0) [] rfl (aU.nil _ _) sw 80 cw ws rfl HSW1.out (by decide) HB1.out.size ?_;intro v2 w2 how hgr _ _;have hab:=aZ (aU.nil _ _) hgr (Below.refl w1.heap.size w1) (abE _);have HB2:=abC (HB1.out.trans (hab.mono HB1.out.size));have xV:Hid (aU w2 wb.heap.size v2 ws):=abC how;have HV2:=abC (HV1.out.below hab);have Ia:=abC (Below.blk HB2.out rV.out (aV rV.out));have cc2:w2.cell? ⟨w.heap.size+1,34,none⟩=some (.slice sw 80 cw):=(by rw [aF Ia.out];exact Ol.out);have cc3:w2.frozen? ⟨w.heap.size+1,34,none⟩=false:=aC Ia.out 34;obtain ⟨s2,c2,hv2, -⟩:=xV.out.form;rw [qV.out] at hv2;subst hv2;clear D6 how hgr hab))
  obtain ⟨w3,hw⟩:∃ x,x=w2.setCell ⟨w.heap.size+1,34,none⟩ (.slice s2 80 c2):=⟨_,rfl⟩
  rw [← hw]
  have HM3:Hid (w3.heap[w.heap.size+1]? = some (.cells (bg v b ro (.slice s2 80 c2) i ks gs ss) 31 (0,0))):=abC (by rw [hw,aQ Ia.out,HSET.out])
  have hk3:Kept (fun x=>x=w.heap.size+1) w2 w3:=by rw [hw];exact (Kept.refl _ _).at _ _
  have GI:=abC hk3
  have Ef:=abC (hk3.blk (Below.blk HB2.out HG0.out (by have:=nC.out;omega)) (by omega))
  have HR3:=abC (hk3.blk (Below.blk HB2.out HG2.out nC.out) (by omega))
  have HO3:=abC (xV.out.kept hk3 (fun k e he=>by have:=xV.out.lt k e;have:=nC.out;omega))
  have HV3:=abC (HV2.out.kept hk3 (fun k e he=>by have:=HV2.out.lt k e;have:=nC.out;omega))
  obtain ⟨sv,cv,hvv,kcv, -, hsv, -⟩:=HV3.out.form
  rw [qM.out] at hvv hsv kcv
  subst hvv
  have HSV:=abC hsv
  have HCV:=abC kcv
  have HB3:Hid (Below w.heap.size w w3):=abC (HB.out.trans ⟨hk3.os.trans HB2.out.os,hk3.tape.trans HB2.out.tape,hk3.output.trans HB2.out.output,abH HB2.out.size hk3.size,fun k hk=>(hk3.block k (abF (abF hk HB.out.size) HB2.out.size) (fun e=>by have e:k=w.heap.size+1:=e;omega)).trans (HB2.out.block k (abF hk HB.out.size))⟩)
  clear hw cc2 cc3 hk3 hsv kcv xV Ia HV2 HV3
  go_wp2_with (first|((with_reducible refine aS 21 ?_);refine aB rfl 25 _ rfl (w.heap.size) 0 _ 25 (0,0) _ Ef.out rfl .u8 sd (aj _ _) Tryz.underlying25 rfl (Sl.bU HSL.out) ?_)|((with_reducible show Calls _ 67 _ _ _);go_at_call 67; refine (HSG.out _ _ _ HSV.out HCV.out (UG.out _ HB3.out)).mono ?_;rintro e w4 ⟨rfl,hb4⟩;have HM4:=abC (Below.blk hb4 HM3.out (aV HM3.out));have HR4:=abC (Below.blk hb4 HR3.out (aV HR3.out));have HO4:=abC (HO3.out.below hb4);have ou:=abC (HB3.out.trans (hb4.mono HB3.out.size));clear hb4)|((with_reducible refine aT 24 ?_);refine dD rfl 27 _ _ rfl (w.heap.size+1) 132 _ (arr .u8 sg) 31 HM4.out rfl rfl (Oe.out _) (Sl.sU U3.out) (ak _ _) ?_;intro w5 hb hk hz;rw [HPUT.out] at hb;have HM5:=abC hb;have Ei:=abC (hk.blk HR4.out (by omega));have UO:=abC (HO4.out.kept hk (fun k e he=>by have:=HO4.out.lt k e;have:=nC.out;omega));have gy:Hid (Below w.heap.size w w5):=abC (ou.out.trans ⟨hk.os,hk.tape,hk.output,hk.size,fun k hk2=>hk.block k (abF hk2 ou.out.size) (fun e=>by have e:k=w.heap.size+1:=e;omega)⟩);clear hb hk hz)|((with_reducible refine aS 25 ?_);refine wpList_load_row rfl 31 _ rfl (w.heap.size+1) rfl 31 _ (0,0) _ HM5.out Tryz.underlying31 rfl (yP.out _) ?_)|((with_reducible refine aT 4 ?_);refine au rfl 31 _ _ rfl (w.heap.size+1+1) _ _ 31 Ei.out rfl rfl (HFS.out _) (yP.out _) (HFO.out _ _) ?_;intro w6 hb hk hz;have mH:=abC hb;have HK6:=abC hk;clear hb hk hz))
  all_goals (try simp only [Exit.then])
  refine bodyPost_ret (aN rfl _ _ (w.heap.size+1+1) 31 _ (0,0) _ _ rfl mH.out Tryz.underlying31 rfl (yP.out _) rfl) rfl ?_
  exact ⟨_,_,rfl,⟨rfl,s2,c2,rfl,(UO.out.kept HK6.out (fun k e he=>by have:=UO.out.lt k e;have:=nC.out;omega)).mono HB.out.size⟩,gy.out.trans ⟨HK6.out.os,HK6.out.tape,HK6.out.output,HK6.out.size,fun k hk=>HK6.out.block k (abF hk gy.out.size) (fun e=>by have e:k=w.heap.size+1+1:=e;omega)⟩⟩
end Go.Proofs.YthdgbgleklkaiaaGreatDoor.Mf
