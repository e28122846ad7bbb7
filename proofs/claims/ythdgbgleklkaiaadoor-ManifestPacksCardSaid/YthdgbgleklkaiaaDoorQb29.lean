/- The document's Body of a manifest that may be. The document's Body, PackManifest. Condition: as each theorem says. -/

import Derived.Test.YthdgbgleklkaiaaDoorQb28
open Go.Lib renaming hid→acD
open List renaming length_append→acE
open Nat renaming le_refl→acF,le_of_lt→acG
set_option linter.unusedSimpArgs false
set_option linter.unusedVariables false
set_option maxRecDepth 100000
set_option maxHeartbeats 16000000
namespace Go.Proofs.YthdgbgleklkaiaaDoor.Mf
open Go.RowKit Lm Fp Cu Sl Sc Ce
theorem EO {ro ks gs ss ws:List Int} (v b i:Int) (sw:Option Addr) (cw:Nat) (w:World) (h1:ro.length=32) (h2:ks.length=32) (h3:gs.length=64) (h4:ss.length=64) (hws:Src w sw 80 ws) (hm:gq v b 80 i=true) :
  Calls Tryd.prog 12 #[.agg (aZ v b ro (.slice sw 80 cw) i ks gs ss)] w fun e w'=>∃ vv,e = .returned (.tuple #[vv, .int .i64 0])∧aU w' w.heap.size vv (bV v b ro ws i ks gs)∧Below w.heap.size w w':=by
 have hb0:(0≤v∧v≤2147483647)∧(1≤b∧b≤32)∧(0≤i∧i≤2147483647):=by simpa [gq,wZ,and_assoc] using hm
 have hwl:=hws.len
 have hp1:=fun (u:World) (g h c:Nat) (k1:Src u (some ⟨g,0,none⟩) 4 [80,67,77,49]) (k2:sH u (some ⟨h,0,none⟩) 2 [v,b])=>uh (some ⟨g,0,none⟩) (some ⟨h,0,none⟩) 4 c 2 2 [80,67,77,49] [v,b] u k1 k2 (by decide) (by decide) (by intro y hy;simp only [List.mem_cons,List.not_mem_nil,or_false] at hy;rcases hy with rfl|rfl <;> omega)
 have hp2:=fun (u:World) (T:List Int) (sa:Option Addr) (n c h:Nat) (k1:Src u sa n T) (k2:sH u (some ⟨h,0,none⟩) 1 [i]) (hn:n≤1000)=>uh sa (some ⟨h,0,none⟩) n c 1 1 T [i] u k1 k2 (by omega) (by decide) (by intro y hy;simp only [List.mem_singleton] at hy;subst hy;omega)
 have hl1:(fq [80,67,77,49] [v,b]).length=20:=by rw [dO];rfl
 obtain ⟨T1,hT1⟩:∃ T,T=fq [80,67,77,49] [v,b]:=⟨_,rfl⟩
 have hl3:(fq (T1 ++ ro ++ ws) [i]).length=140:=by rw [dO,acE,acE,hT1,hl1,h1,hwl];rfl
 obtain ⟨T3,ZG⟩:∃ T,T=fq (T1 ++ ro ++ ws) [i]:=⟨_,rfl⟩
 have hbd:bV v b ro ws i ks gs=T3 ++ ks ++ gs:=by rw [bV,ZG,hT1]
 rw [← hT1] at hl1
 simp only [← hT1] at hp1
 rw [← ZG] at hl3
 have hp3:=fun (u:World) (sa:Option Addr) (n c h:Nat) (k1:Src u sa n (T1 ++ ro ++ ws)) (k2:sH u (some ⟨h,0,none⟩) 1 [i]) (hn:n≤1000)=>hp2 u (T1 ++ ro ++ ws) sa n c h k1 k2 hn
 simp only [← ZG] at hp3
 rw [hbd]
 have m0:=rW (v:=v) (b:=b) (i:=i) (ro:=ro) (ks:=ks) (gs:=gs) (ss:=ss) (wv := .slice sw 80 cw)
 have m1:=lI (v:=v) (b:=b) (i:=i) (ro:=ro) (ks:=ks) (gs:=gs) (ss:=ss) (wv := .slice sw 80 cw)
 have Uu:=iq (v:=v) (b:=b) (i:=i) (ks:=ks) (gs:=gs) (ss:=ss) (wv := .slice sw 80 cw) h1
 have m35:=lX (v:=v) (b:=b) (i:=i) (ks:=ks) (gs:=gs) (ss:=ss) (wv := .slice sw 80 cw) h1
 have mr:=yF (v:=v) (b:=b) (i:=i) (ro:=ro) (ks:=ks) (gs:=gs) (ss:=ss) (wv := .slice sw 80 cw)
 have mk:=P8 (v:=v) (b:=b) (i:=i) (ks:=ks) (gs:=gs) (ss:=ss) (wv := .slice sw 80 cw) h1
 have mg:=P9 (v:=v) (b:=b) (i:=i) (gs:=gs) (ss:=ss) (wv := .slice sw 80 cw) h1 h2
 have yD:=bK (v:=v) (b:=b) (i:=i) (wv := .slice sw 80 cw) h1 h2 h3 h4
 obtain ⟨M,hM⟩:∃ M,M=aZ v b ro (.slice sw 80 cw) i ks gs ss:=⟨_,rfl⟩
 rw [← hM] at m0 m1 Uu m35 mr mk mg yD ⊢
 have hb:=(Below.refl _ w).alloc (acF _) (.cells M 30)
 have Xr:=hws.below hb
 have hg0:(w.alloc (.cells M 30)).heap[w.heap.size]? = some (.cells M 30 (0,0)):=aG w _
 have hlt:w.heap.size < (w.alloc (.cells M 30)).heap.size:=by simp
 have hsr:∀ u:World,u.heap[w.heap.size]? = some (.cells M 30 (0,0))→Src u (some ⟨w.heap.size,2,none⟩) 32 ro∧Src u (some ⟨w.heap.size,36,none⟩) 32 ks∧Src u (some ⟨w.heap.size,68,none⟩) 64 gs:=by
  intro u h
  rw [← h1] at *
  refine ⟨kP h 2 mr,?_,?_⟩
  ·have:=kP h 36 mk
   rwa [h2] at this
  ·have:=kP h 68 mg
   rwa [h3] at this
 have HP1:=acD hp1
 have Cx:=acD hp3
 have nC:=acD hl1
 have HL3:=acD hl3
 have iG:=acD h1
 have kU:=acD h2
 have Ur:=acD h3
 have HM0:=acD m0
 have Cz:=acD m1
 have qG:=acD Uu
 have HM35:=acD m35
 have xJ:=acD hsr
 have HW:=acD Xr
 have rE:=acD hwl
 have HG:=acD hg0
 have HB0:=acD hb
 have kK:=acD hlt
 have Cy:Hid ((Tryd.prog.info? 30).map (·.size)=some M.size):=acD (by rw [yD];kernel_rfl)
 have n1:¬ b < 1:=by omega
 have n2:¬ (32:Int) < b:=by omega
 have hs1:=fun u=>gT v u
 have hs2:=fun u=>gT i u
 rw [show wZ v=true by simp [wZ];omega] at hs1
 rw [show wZ i=true by simp [wZ];omega] at hs2
 have iO:=acD hs1
 have HS2:=acD hs2
 clear hs1 hs2
 clear hp1 hp2 hp3 hl1 hl3 h1 h2 h3 h4 m0 m1 Uu m35 mr mk mg yD hsr hws Xr hwl hg0 hb hlt hM hbd hT1 ZG hm hb0
 go_enter Tryd.func12, Tryd.ntmps12
 go_upto_region 1 with fail
 generalize w.alloc (.cells M 30)=wb at HW HG HB0 kK xJ ⊢
 have c0:wb.cell? ⟨w.heap.size,0,none⟩=some (.int .i64 v):=by rw [aF HG.out];exact HM0.out
 have c1:wb.cell? ⟨w.heap.size,1,none⟩=some (.int .i64 b):=by rw [aF HG.out];exact Cz.out
 have c2:wb.cell? ⟨w.heap.size,34,none⟩=some (.slice sw 80 cw):=by rw [aF HG.out];exact qG.out
 have c3:wb.cell? ⟨w.heap.size,35,none⟩=some (.int .i64 i):=by rw [aF HG.out];exact HM35.out
 go_upto_region 3 with (first|((with_reducible show Calls _ 25 #[.int .i64 v] _ _);go_at_call 25; refine (iO.out _).mono ?_;rintro e w' ⟨rfl,rfl⟩)|((with_reducible show Calls _ 25 #[.int .i64 i] _ _);go_at_call 25; refine (HS2.out _).mono ?_;rintro e w' ⟨rfl,rfl⟩))
 clear c0 c1 c2 c3
 have qH:=acD HG.out
 have HB1:=acD (Below.refl wb.heap.size wb)
 obtain ⟨w1,hw1⟩:∃ x:World,x=wb:=⟨_,rfl⟩
 rw [← hw1] at qH HB1 ⊢
 rw [hw1] at HB1
 have HB1:Hid (Below wb.heap.size wb w1):=acD (by rw [hw1];exact Below.refl _ _)
 clear hw1
 have kc:=conv4 w1 80 67 77 49
 have hz1:=HB1.out.size
 obtain ⟨w2,hw2⟩:∃ x,x=w1.alloc (.cells (vI 80 67 77 49) 5 (4,5)):=⟨_,rfl⟩
 have hb2:Below w1.heap.size w1 w2:=by rw [hw2];exact (Below.refl _ w1).alloc (acF _) _
 have hs2:Src w2 (some ⟨w1.heap.size,0,none⟩) 4 [80,67,77,49]:=by rw [hw2];exact src4 (aG w1 _)
 rw [← hw2] at kc
 have HG2:=acD (Below.blk hb2 qH.out (aO qH.out))
 have hb3:=(Below.refl _ w2).alloc (acF _) (.cells #[.int .i64 v, .int .i64 b] 3)
 have UF:=acD (Below.blk hb3 HG2.out (aO HG2.out))
 have HB3:=acD ((HB1.out.trans (hb2.mono hz1)).trans (hb3.mono (Nat.le_trans hz1 hb2.size)))
 have HQ:=acD (HP1.out _ _ _ 4 (hs2.below hb3) (Hu w2 v b))
 have HZ3:Hid (wb.heap.size≤(w2.alloc (.cells #[.int .i64 v, .int .i64 b] 3)).heap.size):=acD HB3.out.size
 have c0:w2.cell? ⟨w.heap.size,0,none⟩=some (.int .i64 v):=by rw [aF HG2.out];exact HM0.out
 have c1:w2.cell? ⟨w.heap.size,1,none⟩=some (.int .i64 b):=by rw [aF HG2.out];exact Cz.out
 unfold vI at kc
 clear hw2 hb2 hs2 hb3 hz1
 go_upto_region 4 with ((with_reducible show Calls _ 26 _ _ _);go_at_call 26; refine HQ.out.mono ?_;rintro e w4 ⟨v4,rfl,ho,hb⟩;have UD:=acD (ho.mono HZ3.out);have HG4:=acD (Below.blk hb UF.out (aO UF.out));have HB4:=acD (HB3.out.trans (hb.mono HZ3.out));clear ho hb)
 clear kc c0 c1 HQ HZ3 UF HB3 HG2 qH HB1
 have k34:w4.cell? ⟨w.heap.size,34,none⟩=some (.slice sw 80 cw):=by rw [aF HG4.out];exact qG.out
 refine wp_region_held_drew (S:=fun u=>Below wb.heap.size wb u∧u.cell? ⟨w.heap.size,34,none⟩=some (.slice sw 80 cw)) (by kernel_rfl) (⟨HB4.out.drew,k34⟩) (fun hHeld=>?_)
 refine wpAnyH_take (i:=0) (oi:=(⟨some 40,_,_,_,_,none⟩:Oper)) (v:=v4) rfl (by kernel_rfl) (by kernel_rfl) (by kernel_rfl) (fun _ _ _ h=>h) (Or.inl ⟨by rfl,?hy115⟩) (by assumption) ?Pp
 case hy115=>(intro u dD;(try dsimp only at dD);go_simp;try (with_reducible rfl))
 (try simp only [Act.put,sA,sZ,sS])
 refine wpAnyH_take (i:=1) (oi:=(⟨some 41,_,_,_,_,none⟩:Oper)) (v := .pointer (some ⟨w.heap.size,2,none⟩)) rfl (by kernel_rfl) (by kernel_rfl) (by kernel_rfl) (fun _ _ _ h=>h) (Or.inl ⟨by rfl,?Xm⟩) (by assumption) ?rest116
 case Xm=>(intro u dD;(try dsimp only at dD);go_simp;try (with_reducible rfl))
 (try simp only [Act.put,sA,sZ,sS])
 refine wpAnyH_take (i:=2) (oi:=(⟨some 42,_,_,_,_,none⟩:Oper)) (v := .slice (some ⟨w.heap.size,2,none⟩) 32 32) rfl (by kernel_rfl) (by kernel_rfl) (by kernel_rfl) (fun _ _ _ h=>h) (Or.inl ⟨by rfl,?hy117⟩) (by assumption) ?rest117
 case hy117=>(intro u dD;(try dsimp only at dD);go_simp;try (with_reducible rfl))
 (try simp only [Act.put,sA,sZ,sS])
 refine wpAnyH_take (i:=4) (oi:=(⟨some 44,_,_,_,_,none⟩:Oper)) (v := .pointer (some ⟨w.heap.size,34,none⟩)) rfl (by kernel_rfl) (by kernel_rfl) (by kernel_rfl) (fun _ _ _ h=>h) (Or.inl ⟨by rfl,?Xl⟩) (by assumption) ?Pn
 case Xl=>(intro u dD;(try dsimp only at dD);go_simp;try (with_reducible rfl))
 (try simp only [Act.put,sA,sZ,sS])
 refine wpAnyH_take (i:=5) (oi:=(⟨some 45,_,_,_,_,none⟩:Oper)) (v := .slice sw 80 cw) rfl (by kernel_rfl) (by kernel_rfl) (by kernel_rfl) (fun _ _ _ h=>h) (Or.inl ⟨by rfl,?Xk⟩) (by assumption) ?Pm
 case Xk=>(intro u dD;(try dsimp only at dD);obtain ⟨-, k0⟩:=dD;go_simp;try (with_reducible rfl))
 (try simp only [Act.put,sA,sZ,sS])
 refine wpAnyH_ready (rs:=[3]) (by kernel_rfl) (by simp) ?_
 refine AllReadyH.cons (o:=(⟨some 43,_,_,_,_,none⟩:Oper)) rfl (fun K hK=>?_) AllReadyH.nil
 have Xw:=(xJ.out w4.drew HG4.out).1
 refine d9 rfl (.tmp 40) (.tmp 42) rfl wb.heap.size v4 T1 rfl UD.out (some ⟨w.heap.size,2,none⟩) 32 32 ro rfl Xw (by rw [nC.out];decide) HB4.out.size ?_
 intro v5 w5 how hgr _ _
 have JY:=acD how
 have hb5:=aQ UD.out.drew hgr HB4.out.drew HB4.out.size
 have fM:=acD hb5
 have HG5:Hid (w5.heap[w.heap.size]? = some (.cells M 30 (0,0))):=acD (by rw [hb5.block _ kK.out];exact HG.out)
 clear how hgr hb5 Xw
 have k35:w5.cell? ⟨w.heap.size,34,none⟩=some (.slice sw 80 cw):=by rw [aF HG5.out];exact qG.out
 refine hK.out _ _ (⟨fM.out,k35⟩) (fun hHeld=>?_)
 clear hK K
 (try simp only [Act.put,sA,sZ,sS])
 refine wpAnyH_ready (rs:=[6]) (by kernel_rfl) (by simp) ?_
 refine AllReadyH.cons (o:=(⟨some 46,_,_,_,_,none⟩:Oper)) rfl (fun K hK=>?_) AllReadyH.nil
 refine d9 rfl (.tmp 43) (.tmp 45) rfl wb.heap.size v5 (T1 ++ ro) rfl JY.out sw 80 cw ws rfl (HW.out.below fM.out) (by rw [acE,nC.out,iG.out];decide) fM.out.size ?_
 intro v6 w6 how hgr _ _
 have En:=acD how
 have hb6:=aQ JY.out hgr fM.out fM.out.size
 have ko:=acD hb6
 have lN:Hid (w6.heap[w.heap.size]? = some (.cells M 30 (0,0))):=acD (by rw [hb6.block _ kK.out];exact HG.out)
 clear how hgr hb6
 have k36:w6.cell? ⟨w.heap.size,34,none⟩=some (.slice sw 80 cw):=by rw [aF lN.out];exact qG.out
 refine hK.out _ _ (⟨ko.out,k36⟩) (fun hHeld=>?_)
 clear hK K
 (try simp only [Act.put,sA,sZ,sS])
 refine wpAnyH_take (i:=7) (oi:=(⟨some 4,_,_,_,_,none⟩:Oper)) (v:=v6) rfl (by kernel_rfl) (by kernel_rfl) (by kernel_rfl) (fun _ _ _ h=>h) (Or.inl ⟨by rfl,?Xj⟩) (by assumption) ?Pk
 case Xj=>(intro u dD;(try dsimp only at dD);go_simp;try (with_reducible rfl))
 (try simp only [Act.put,sA,sZ,sS])
 refine wpAnyH_done (by kernel_rfl) ?_ _
 (try simp only [Exit.then])
 clear k34 k35 k36 hHeld
 have hl6:(T1 ++ ro ++ ws).length=132:=by rw [acE,acE,nC.out,iG.out,rE.out]
 obtain ⟨s6,c6,e6, -, -, hs6, -⟩:=En.out.form
 rw [hl6] at e6 hs6
 subst e6
 have HS6:=acD hs6
 clear hl6 hs6
 have c3:w6.cell? ⟨w.heap.size,35,none⟩=some (.int .i64 i):=by rw [aF lN.out];exact HM35.out
 have dR:=(Below.refl _ w6).alloc (acF _) (.cells #[.int .i64 i] 3)
 have eG:=acD (ko.out.trans (dR.mono ko.out.size))
 have HG7:=acD (Below.blk dR lN.out (aO lN.out))
 have HQ7:=acD (Cx.out _ s6 132 c6 _ (HS6.out.below dR) (zH w6 i) (by decide))
 clear dR
 go_upto_region 6 with ((with_reducible show Calls _ 26 _ _ _);go_at_call 26; refine HQ7.out.mono ?_;rintro e w8 ⟨v8,rfl,ho,hb⟩;have UC:=acD (ho.mono eG.out.size);have fC:=acD (eG.out.trans (hb.mono eG.out.size));have QY:=acD (Below.blk hb HG7.out (aO HG7.out));clear ho hb)
 clear c3
 refine wp_region_held_drew (S:=fun u=>Below wb.heap.size wb u) (by kernel_rfl) (fC.out.drew) (fun hHeld=>?_)
 refine wpAnyH_take (i:=0) (oi:=(⟨some 53,_,_,_,_,none⟩:Oper)) (v:=v8) rfl (by kernel_rfl) (by kernel_rfl) (by kernel_rfl) (fun _ _ _ h=>h) (Or.inl ⟨by rfl,?Xi⟩) (by assumption) ?rest121
 case Xi=>(intro u dD;(try dsimp only at dD);go_simp;try (with_reducible rfl))
 (try simp only [Act.put,sA,sZ,sS])
 refine wpAnyH_take (i:=1) (oi:=(⟨some 54,_,_,_,_,none⟩:Oper)) (v := .pointer (some ⟨w.heap.size,35,none⟩)) rfl (by kernel_rfl) (by kernel_rfl) (by kernel_rfl) (fun _ _ _ h=>h) (Or.inl ⟨by rfl,?Xh⟩) (by assumption) ?rest122
 case Xh=>(intro u dD;(try dsimp only at dD);go_simp;try (with_reducible rfl))
 (try simp only [Act.put,sA,sZ,sS])
 refine wpAnyH_take (i:=2) (oi:=(⟨some 55,_,_,_,_,none⟩:Oper)) (v := .pointer (some ⟨w.heap.size,36,none⟩)) rfl (by kernel_rfl) (by kernel_rfl) (by kernel_rfl) (fun _ _ _ h=>h) (Or.inl ⟨by rfl,?hy123⟩) (by assumption) ?rest123
 case hy123=>(intro u dD;(try dsimp only at dD);go_simp;try (with_reducible rfl))
 (try simp only [Act.put,sA,sZ,sS])
 refine wpAnyH_take (i:=3) (oi:=(⟨some 56,_,_,_,_,none⟩:Oper)) (v := .slice (some ⟨w.heap.size,36,none⟩) 32 32) rfl (by kernel_rfl) (by kernel_rfl) (by kernel_rfl) (fun _ _ _ h=>h) (Or.inl ⟨by rfl,?hy124⟩) (by assumption) ?rest124
 case hy124=>(intro u dD;(try dsimp only at dD);go_simp;try (with_reducible rfl))
 (try simp only [Act.put,sA,sZ,sS])
 refine wpAnyH_take (i:=5) (oi:=(⟨some 58,_,_,_,_,none⟩:Oper)) (v := .pointer (some ⟨w.heap.size,35,none⟩)) rfl (by kernel_rfl) (by kernel_rfl) (by kernel_rfl) (fun _ _ _ h=>h) (Or.inl ⟨by rfl,?hy125⟩) (by assumption) ?rest125
 case hy125=>(intro u dD;(try dsimp only at dD);go_simp;try (with_reducible rfl))
 (try simp only [Act.put,sA,sZ,sS])
 refine wpAnyH_take (i:=6) (oi:=(⟨some 59,_,_,_,_,none⟩:Oper)) (v := .pointer (some ⟨w.heap.size,68,none⟩)) rfl (by kernel_rfl) (by kernel_rfl) (by kernel_rfl) (fun _ _ _ h=>h) (Or.inl ⟨by rfl,?Xg⟩) (by assumption) ?Pj
 case Xg=>(intro u dD;(try dsimp only at dD);go_simp;try (with_reducible rfl))
 (try simp only [Act.put,sA,sZ,sS])
 refine wpAnyH_take (i:=7) (oi:=(⟨some 60,_,_,_,_,none⟩:Oper)) (v := .slice (some ⟨w.heap.size,68,none⟩) 64 64) rfl (by kernel_rfl) (by kernel_rfl) (by kernel_rfl) (fun _ _ _ h=>h) (Or.inl ⟨by rfl,?Xf⟩) (by assumption) ?Ph
 case Xf=>(intro u dD;(try dsimp only at dD);go_simp;try (with_reducible rfl))
 (try simp only [Act.put,sA,sZ,sS])
 refine wpAnyH_ready (rs:=[4]) (by kernel_rfl) (by simp) ?_
 refine AllReadyH.cons (o:=(⟨some 57,_,_,_,_,none⟩:Oper)) rfl (fun K hK=>?_) AllReadyH.nil
 have Xv:=(xJ.out w8.drew QY.out).2.1
 refine d9 rfl (.tmp 53) (.tmp 56) rfl wb.heap.size v8 T3 rfl UC.out (some ⟨w.heap.size,36,none⟩) 32 32 ks rfl Xv (by rw [HL3.out];decide) fC.out.size ?_
 intro v9 w9 how hgr _ _
 have GL:=acD how
 have dF:=aQ UC.out.drew hgr fC.out.drew fC.out.size
 have kW:=acD dF
 have HG9:Hid (w9.heap[w.heap.size]? = some (.cells M 30 (0,0))):=acD (by rw [dF.block _ kK.out];exact HG.out)
 clear how hgr dF Xv
 refine hK.out _ _ (kW.out) (fun hHeld=>?_)
 clear hK K
 (try simp only [Act.put,sA,sZ,sS])
 refine wpAnyH_ready (rs:=[8]) (by kernel_rfl) (by simp) ?_
 refine AllReadyH.cons (o:=(⟨some 61,_,_,_,_,none⟩:Oper)) rfl (fun K hK=>?_) AllReadyH.nil
 have hsr9:=(xJ.out _ HG9.out).2.2
 refine d9 rfl (.tmp 57) (.tmp 60) rfl wb.heap.size v9 (T3 ++ ks) rfl GL.out (some ⟨w.heap.size,68,none⟩) 64 64 gs rfl hsr9 (by rw [acE,HL3.out,kU.out];decide) kW.out.size ?_
 intro v10 Us how hgr _ _
 have ow:=acD how
 have OM:=acD (aQ GL.out hgr kW.out kW.out.size)
 clear how hgr hsr9
 refine hK.out _ _ (OM.out) (fun hHeld=>?_)
 clear hK K
 (try simp only [Act.put,sA,sZ,sS])
 refine wpAnyH_take (i:=9) (oi:=(⟨some 2,_,_,_,_,none⟩:Oper)) (v:=v10) rfl (by kernel_rfl) (by kernel_rfl) (by kernel_rfl) (fun _ _ _ h=>h) (Or.inl ⟨by rfl,?hy128⟩) (by assumption) ?Pg
 case hy128=>(intro u dD;(try dsimp only at dD);go_simp;try (with_reducible rfl))
 (try simp only [Act.put,sA,sZ,sS])
 refine wpAnyH_take (i:=10) (oi:=(⟨some 3,_,_,_,_,none⟩:Oper)) (v := .int .i64 0) rfl (by kernel_rfl) (by kernel_rfl) (by kernel_rfl) (fun _ _ _ h=>h) (Or.inl ⟨by rfl,?Xe⟩) (by assumption) ?rest129
 case Xe=>(intro u dD;(try dsimp only at dD);go_simp;try (with_reducible rfl))
 (try simp only [Act.put,sA,sZ,sS])
 refine wpAnyH_done (by kernel_rfl) ?_ _
 (try simp only [Exit.then])
 go_wp2_with fail
 all_goals (try simp only [Exit.then])
 go_ret2
 exact ⟨_,rfl,ow.out.mono (acG kK.out),HB0.out.trans (OM.out.mono (acG kK.out))⟩
end Go.Proofs.YthdgbgleklkaiaaDoor.Mf
namespace Go.Proofs.YthdgbgleklkaiaaDoor.Mf
open Go.RowKit Lm Fp Cu Sl Sc Ce
theorem EP {ro ks gs ss:List Int} (v b i:Int) (sw:Option Addr) (nw cw:Nat) (w:World) (h1:ro.length=32) (h2:ks.length=32) (h3:gs.length=64) (h4:ss.length=64) (hm:gq v b nw i=false) :
  Calls Tryd.prog 12 #[.agg (aZ v b ro (.slice sw nw cw) i ks gs ss)] w fun e w'=>e = .returned (.tuple #[.slice none 0 0, .int .i64 1])∧Below w.heap.size w w':=by
 have c0:(w.alloc (.cells (aZ v b ro (.slice sw nw cw) i ks gs ss) 30)).cell? ⟨w.heap.size,0,none⟩=some (.int .i64 v):=by rw [aF (aG w _)];exact rW
 have c1:(w.alloc (.cells (aZ v b ro (.slice sw nw cw) i ks gs ss) 30)).cell? ⟨w.heap.size,1,none⟩=some (.int .i64 b):=by rw [aF (aG w _)];exact lI
 have c2:(w.alloc (.cells (aZ v b ro (.slice sw nw cw) i ks gs ss) 30)).cell? ⟨w.heap.size,34,none⟩=some (.slice sw nw cw):=by rw [aF (aG w _)];exact iq h1
 have c3:(w.alloc (.cells (aZ v b ro (.slice sw nw cw) i ks gs ss) 30)).cell? ⟨w.heap.size,35,none⟩=some (.int .i64 i):=by rw [aF (aG w _)];exact lX h1
 have HB:=acD ((Below.refl _ w).alloc (acF _) (.cells (aZ v b ro (.slice sw nw cw) i ks gs ss) 30))
 have hs1:=fun u=>gT v u
 have hs2:=fun u=>gT i u
 have HS2:=acD hs2
 clear h1 h2 h3 h4 hs2
 generalize aZ v b ro (.slice sw nw cw) i ks gs ss=M at c0 c1 c2 c3 HB ⊢
 cases hv:wZ v with
 | false =>
  rw [hv] at hs1
  have iO:=acD hs1
  clear hs1 hm
  go_enter Tryd.func12, Tryd.ntmps12
  go_wp2_with (first|((with_reducible show Calls _ 25 #[.int .i64 v] _ _);go_at_call 25; refine (iO.out _).mono ?_;rintro e w' ⟨rfl,rfl⟩)|((with_reducible show Calls _ 25 #[.int .i64 i] _ _);go_at_call 25; refine (HS2.out _).mono ?_;rintro e w' ⟨rfl,rfl⟩))
  all_goals (try simp only [Exit.then])
  go_ret2
  exact ⟨rfl,HB.out⟩
 | true =>
  rw [hv] at hs1
  have iO:=acD hs1
  clear hs1
  by_cases hb1:b < 1
  ·clear hm
   go_enter Tryd.func12, Tryd.ntmps12
   go_wp2_with (first|((with_reducible show Calls _ 25 #[.int .i64 v] _ _);go_at_call 25; refine (iO.out _).mono ?_;rintro e w' ⟨rfl,rfl⟩)|((with_reducible show Calls _ 25 #[.int .i64 i] _ _);go_at_call 25; refine (HS2.out _).mono ?_;rintro e w' ⟨rfl,rfl⟩))
   all_goals (try simp only [Exit.then])
   go_ret2
   exact ⟨rfl,HB.out⟩
  ·by_cases hb2:(32:Int) < b
   ·clear hm
    go_enter Tryd.func12, Tryd.ntmps12
    go_wp2_with (first|((with_reducible show Calls _ 25 #[.int .i64 v] _ _);go_at_call 25; refine (iO.out _).mono ?_;rintro e w' ⟨rfl,rfl⟩)|((with_reducible show Calls _ 25 #[.int .i64 i] _ _);go_at_call 25; refine (HS2.out _).mono ?_;rintro e w' ⟨rfl,rfl⟩))
    all_goals (try simp only [Exit.then])
    go_ret2
    exact ⟨rfl,HB.out⟩
   ·by_cases hn:nw=80
    ·subst hn
     have hi:wZ i=false:=by
      cases h:wZ i with
      | false=>rfl
      | true=>exfalso;simp [gq,hv,h] at hm;omega
     have hs2:=HS2.out
     rw [hi] at hs2
     have HS2:=acD hs2
     clear hm hs2
     go_enter Tryd.func12, Tryd.ntmps12
     go_wp2_with (first|((with_reducible show Calls _ 25 #[.int .i64 v] _ _);go_at_call 25; refine (iO.out _).mono ?_;rintro e w' ⟨rfl,rfl⟩)|((with_reducible show Calls _ 25 #[.int .i64 i] _ _);go_at_call 25; refine (HS2.out _).mono ?_;rintro e w' ⟨rfl,rfl⟩))
     all_goals (try simp only [Exit.then])
     go_ret2
     exact ⟨rfl,HB.out⟩
    ·have hn2:((nw:Int) == 80)=false:=by rw [beq_eq_false_iff_ne];omega
     clear hm
     go_enter Tryd.func12, Tryd.ntmps12
     go_wp2_with (first|((with_reducible show Calls _ 25 #[.int .i64 v] _ _);go_at_call 25; refine (iO.out _).mono ?_;rintro e w' ⟨rfl,rfl⟩)|((with_reducible show Calls _ 25 #[.int .i64 i] _ _);go_at_call 25; refine (HS2.out _).mono ?_;rintro e w' ⟨rfl,rfl⟩))
     all_goals (try simp only [Exit.then])
     go_ret2
     exact ⟨rfl,HB.out⟩
theorem qJ {ro ks gs ss ws:List Int} (v b i:Int) (sw:Option Addr) (nw cw:Nat) (w:World) (h1:ro.length=32) (h2:ks.length=32) (h3:gs.length=64) (h4:ss.length=64) (hws:Src w sw nw ws) :
  Calls Tryd.prog 12 #[.agg (aZ v b ro (.slice sw nw cw) i ks gs ss)] w fun e w'=>∃ vv,e = .returned (.tuple #[vv, .int .i64 (if gq v b nw i then 0 else 1)])∧aU w' w.heap.size vv (if gq v b nw i then bV v b ro ws i ks gs else [])∧Below w.heap.size w w':=by
 cases hm:gq v b nw i with
 | true =>
  have h80:nw=80:=by
   have h:=hm
   simp only [gq,Bool.and_eq_true,decide_eq_true_eq] at h
   exact h.1.2
  subst h80
  exact EO v b i sw cw w h1 h2 h3 h4 hws hm
 | false =>
  refine (EP v b i sw nw cw w h1 h2 h3 h4 hm).mono ?_
  rintro e w' ⟨rfl,hb⟩
  exact ⟨_,rfl,aU.nil _ _,hb⟩
theorem vF {ro ks gs ss ws:List Int} (v b i:Int) (sw:Option Addr) (nw cw:Nat) (w:World) (h1:ro.length=32) (h2:ks.length=32) (h3:gs.length=64) (h4:ss.length=64) (hws:Src w sw nw ws) :
  Calls Tryd.prog 6 #[.agg (aZ v b ro (.slice sw nw cw) i ks gs ss)] w fun e w'=>∃ vv,e = .returned (.tuple #[vv, .int .i64 (if gq v b nw i then 0 else 1)])∧aU w' w.heap.size vv (if gq v b nw i then bV v b ro ws i ks gs ++ ss else [])∧Below w.heap.size w w':=by
 have hb:=(Below.refl _ w).alloc (acF _) (.cells (aZ v b ro (.slice sw nw cw) i ks gs ss) 30)
 have CS:=fun (u:World) (k:Below (w.alloc (.cells (aZ v b ro (.slice sw nw cw) i ks gs ss) 30)).heap.size (w.alloc (.cells (aZ v b ro (.slice sw nw cw) i ks gs ss) 30)) u)=>qJ (ks:=ks) (gs:=gs) (ss:=ss) v b i sw nw cw u h1 h2 h3 h4 ((hws.below hb).below k)
 have yD:=bK (v:=v) (b:=b) (i:=i) (wv := .slice sw nw cw) h1 h2 h3 h4
 have mg:=uw (v:=v) (b:=b) (i:=i) (ss:=ss) (wv := .slice sw nw cw) h1 h2 h3
 have hbl:gq v b nw i=true→(bV v b ro ws i ks gs).length≤300:=by
  intro h
  simp only [gq,Bool.and_eq_true,decide_eq_true_eq] at h
  have:=hws.len
  rw [bV,acE,acE,dO,acE,acE,dO,h1,h2,h3,this,h.1.2]
  simp
 obtain ⟨M,hM⟩:∃ M,M=aZ v b ro (.slice sw nw cw) i ks gs ss:=⟨_,rfl⟩
 rw [← hM] at hb CS yD mg ⊢
 generalize bV v b ro ws i ks gs=T at CS hbl ⊢
 have hg0:(w.alloc (.cells M 30)).heap[w.heap.size]? = some (.cells M 30 (0,0)):=aG w _
 have HG:=acD hg0
 have HB:=acD hb
 have kK:Hid (w.heap.size < (w.alloc (.cells M 30)).heap.size):=acD (by simp)
 have Cy:Hid ((Tryd.prog.info? 30).map (·.size)=some M.size):=acD (by rw [yD];kernel_rfl)
 have HMG:=acD mg
 have Da:=acD CS
 have HSL:=acD h4
 clear hg0 hb yD mg CS hM h1 h2 h3 h4 hws
 cases hm:gq v b nw i with
 | false =>
  rw [hm] at Da
  clear hbl
  go_enter Tryd.func6, Tryd.ntmps6
  go_upto_region 1 with fail
  generalize w.alloc (.cells M 30)=wb at HG HB kK Da ⊢
  go_wp2_with (first|((with_reducible refine aS 7 ?_);refine wpList_load_row rfl 30 _ rfl (w.heap.size) rfl 30 _ (0,0) _ HG.out Tryd.underlying30 rfl Cy.out ?_)|((with_reducible show Calls _ 12 _ _ _);go_at_call 12; refine (Da.out _ (Below.refl _ _)).mono ?_;rintro e w1 ⟨v1,rfl,ho,hb1⟩;have HB1:=acD (HB.out.trans (hb1.mono HB.out.size));clear ho hb1))
  all_goals (try simp only [Exit.then])
  go_ret2
  exact ⟨_,rfl,aU.nil _ _,HB1.out⟩
 | true =>
  rw [hm] at Da
  have qZ:=acD (hbl hm)
  clear hbl
  go_enter Tryd.func6, Tryd.ntmps6
  go_upto_region 1 with fail
  generalize w.alloc (.cells M 30)=wb at HG HB kK Da ⊢
  go_wp2_with (first|((with_reducible refine aS 7 ?_);refine wpList_load_row rfl 30 _ rfl (w.heap.size) rfl 30 _ (0,0) _ HG.out Tryd.underlying30 rfl Cy.out ?_)|((with_reducible show Calls _ 12 _ _ _);go_at_call 12; refine (Da.out _ (Below.refl _ _)).mono ?_;rintro e w1 ⟨v1,rfl,ho,hb1⟩;have HO:=acD ho;have HB1:=acD hb1;have xJ:Hid (Src w1 (some ⟨w.heap.size,132,none⟩) 64 ss):=acD (by have:=kP (Below.blk hb1 HG.out (aO HG.out)) 132 HMG.out;rwa [HSL.out] at this);clear ho hb1)|((with_reducible refine aS 17 ?_);refine aR rfl (.tmp 14) (.tmp 16) rfl wb.heap.size v1 T rfl HO.out (some ⟨w.heap.size,132,none⟩) 64 64 ss rfl xJ.out (by have:=qZ.out;omega) HB1.out.size ?_;intro v2 w2 how hgr _ _;have Br:=acD how;have HB2:=acD (aQ HO.out hgr HB1.out HB1.out.size);clear how hgr))
  all_goals (try simp only [Exit.then])
  go_ret2
  exact ⟨_,rfl,Br.out.mono (acG kK.out),HB.out.trans (HB2.out.mono (acG kK.out))⟩
end Go.Proofs.YthdgbgleklkaiaaDoor.Mf
