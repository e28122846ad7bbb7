/- The document's Body of a manifest that may be. The document's Body, PackManifest. Condition: as each theorem says. -/

import Derived.Test.YthdgbgleklkaiaaDoorQa22
set_option linter.unusedSimpArgs false
set_option linter.unusedVariables false
set_option maxRecDepth 100000
set_option maxHeartbeats 16000000
namespace Go.Proofs.YthdgbgleklkaiaaDoor.Mf
open Go.RowKit Lm Fp Cu Sl Sc Ce
theorem DX {ro ks gs ss ws:List Int} (v b i:Int) (sw:Option Addr) (cw:Nat) (w:World) (h1:ro.length=32) (h2:ks.length=32) (h3:gs.length=64) (h4:ss.length=64) (hws:Src w sw 80 ws) (hm:iJ v b 80 i=true) :
  Calls Tryd.prog 12 #[.agg (aZ v b ro (.slice sw 80 cw) i ks gs ss)] w fun e w'=>∃ vv,e = .returned (.tuple #[vv, .int .i64 0])∧aV w' w.heap.size vv (dF v b ro ws i ks gs)∧Below w.heap.size w w':=by
 have hb0:(0≤v∧v≤2147483647)∧(1≤b∧b≤32)∧(0≤i∧i≤2147483647):=by simpa [iJ,xu,and_assoc] using hm
 have hwl:=hws.len
 have hp1:=fun (u:World) (g h c:Nat) (k1:Src u (some ⟨g,0,none⟩) 4 [80,67,77,49]) (k2:Ag u (some ⟨h,0,none⟩) 2 [v,b])=>tu (some ⟨g,0,none⟩) (some ⟨h,0,none⟩) 4 c 2 2 [80,67,77,49] [v,b] u k1 k2 (by decide) (by decide) (by intro y hy;simp only [List.mem_cons,List.not_mem_nil,or_false] at hy;rcases hy with rfl|rfl <;> omega)
 have hp2:=fun (u:World) (T:List Int) (sa:Option Addr) (n c h:Nat) (k1:Src u sa n T) (k2:Ag u (some ⟨h,0,none⟩) 1 [i]) (hn:n≤1000)=>tu sa (some ⟨h,0,none⟩) n c 1 1 T [i] u k1 k2 (by omega) (by decide) (by intro y hy;simp only [List.mem_singleton] at hy;subst hy;omega)
 have hl1:(iy [80,67,77,49] [v,b]).length=20:=by rw [fU];rfl
 obtain ⟨T1,hT1⟩:∃ T,T=iy [80,67,77,49] [v,b]:=⟨_,rfl⟩
 have hl3:(iy (T1 ++ ro ++ ws) [i]).length=140:=by rw [fU,List.length_append,List.length_append,hT1,hl1,h1,hwl];rfl
 obtain ⟨T3,hT3⟩:∃ T,T=iy (T1 ++ ro ++ ws) [i]:=⟨_,rfl⟩
 have hbd:dF v b ro ws i ks gs=T3 ++ ks ++ gs:=by rw [dF,hT3,hT1]
 rw [← hT1] at hl1
 simp only [← hT1] at hp1
 rw [← hT3] at hl3
 have hp3:=fun (u:World) (sa:Option Addr) (n c h:Nat) (k1:Src u sa n (T1 ++ ro ++ ws)) (k2:Ag u (some ⟨h,0,none⟩) 1 [i]) (hn:n≤1000)=>hp2 u (T1 ++ ro ++ ws) sa n c h k1 k2 hn
 simp only [← hT3] at hp3
 rw [hbd]
 have m0:=uY (v:=v) (b:=b) (i:=i) (ro:=ro) (ks:=ks) (gs:=gs) (ss:=ss) (wv := .slice sw 80 cw)
 have m1:=lW (v:=v) (b:=b) (i:=i) (ro:=ro) (ks:=ks) (gs:=gs) (ss:=ss) (wv := .slice sw 80 cw)
 have m34:=gI (v:=v) (b:=b) (i:=i) (ks:=ks) (gs:=gs) (ss:=ss) (wv := .slice sw 80 cw) h1
 have m35:=nH (v:=v) (b:=b) (i:=i) (ks:=ks) (gs:=gs) (ss:=ss) (wv := .slice sw 80 cw) h1
 have mr:=Ef (v:=v) (b:=b) (i:=i) (ro:=ro) (ks:=ks) (gs:=gs) (ss:=ss) (wv := .slice sw 80 cw)
 have mk:=manC_ks (v:=v) (b:=b) (i:=i) (ks:=ks) (gs:=gs) (ss:=ss) (wv := .slice sw 80 cw) h1
 have mg:=manC_gs (v:=v) (b:=b) (i:=i) (gs:=gs) (ss:=ss) (wv := .slice sw 80 cw) h1 h2
 have SF:=bL (v:=v) (b:=b) (i:=i) (wv := .slice sw 80 cw) h1 h2 h3 h4
 obtain ⟨M,hM⟩:∃ M,M=aZ v b ro (.slice sw 80 cw) i ks gs ss:=⟨_,rfl⟩
 rw [← hM] at m0 m1 m34 m35 mr mk mg SF ⊢
 have hb:=(Below.refl _ w).alloc (Nat.le_refl _) (.cells M 30)
 have hws2:=hws.below hb
 have hg0:(w.alloc (.cells M 30)).heap[w.heap.size]? = some (.cells M 30 (0,0)):=aL w _
 have hlt:w.heap.size < (w.alloc (.cells M 30)).heap.size:=by simp
 have hsr:∀ u:World,u.heap[w.heap.size]? = some (.cells M 30 (0,0))→Src u (some ⟨w.heap.size,2,none⟩) 32 ro∧Src u (some ⟨w.heap.size,36,none⟩) 32 ks∧Src u (some ⟨w.heap.size,68,none⟩) 64 gs:=by
  intro u h
  rw [← h1] at *
  refine ⟨sQ h 2 mr,?_,?_⟩
  ·have:=sQ h 36 mk
   rwa [h2] at this
  ·have:=sQ h 68 mg
   rwa [h3] at this
 have HP1:=Lib.hid hp1
 have Jg:=Lib.hid hp3
 have oH:=Lib.hid hl1
 have HL3:=Lib.hid hl3
 have iK:=Lib.hid h1
 have l9:=Lib.hid h2
 have SY:=Lib.hid h3
 have HM0:=Lib.hid m0
 have F5:=Lib.hid m1
 have pY:=Lib.hid m34
 have HM35:=Lib.hid m35
 have ET:=Lib.hid hsr
 have HW:=Lib.hid hws2
 have vN:=Lib.hid hwl
 have HG:=Lib.hid hg0
 have HB0:=Lib.hid hb
 have og:=Lib.hid hlt
 have MG:Hid ((Tryd.prog.info? 30).map (·.size)=some M.size):=Lib.hid (by rw [SF];kernel_rfl)
 have n1:¬ b < 1:=by omega
 have n2:¬ (32:Int) < b:=by omega
 have hs1:=fun u=>gM v u
 have hs2:=fun u=>gM i u
 rw [show xu v=true by simp [xu];omega] at hs1
 rw [show xu i=true by simp [xu];omega] at hs2
 have gY:=Lib.hid hs1
 have HS2:=Lib.hid hs2
 clear hs1 hs2
 clear hp1 hp2 hp3 hl1 hl3 h1 h2 h3 h4 m0 m1 m34 m35 mr mk mg SF hsr hws hws2 hwl hg0 hb hlt hM hbd hT1 hT3 hm hb0
 go_enter Tryd.func12, Tryd.ntmps12
 go_upto_region 1 with fail
 generalize w.alloc (.cells M 30)=wb at HW HG HB0 og ET ⊢
 have c0:wb.cell? ⟨w.heap.size,0,none⟩=some (.int .i64 v):=by rw [aG HG.out];exact HM0.out
 have c1:wb.cell? ⟨w.heap.size,1,none⟩=some (.int .i64 b):=by rw [aG HG.out];exact F5.out
 have c2:wb.cell? ⟨w.heap.size,34,none⟩=some (.slice sw 80 cw):=by rw [aG HG.out];exact pY.out
 have c3:wb.cell? ⟨w.heap.size,35,none⟩=some (.int .i64 i):=by rw [aG HG.out];exact HM35.out
 go_upto_region 3 with (first|((with_reducible show Calls _ 25 #[.int .i64 v] _ _);go_at_call 25; refine (gY.out _).mono ?_;rintro e w' ⟨rfl,rfl⟩)|((with_reducible show Calls _ 25 #[.int .i64 i] _ _);go_at_call 25; refine (HS2.out _).mono ?_;rintro e w' ⟨rfl,rfl⟩))
 clear c0 c1 c2 c3
 have rZ:=Lib.hid HG.out
 have HB1:=Lib.hid (Below.refl wb.heap.size wb)
 obtain ⟨w1,hw1⟩:∃ x:World,x=wb:=⟨_,rfl⟩
 rw [← hw1] at rZ HB1 ⊢
 rw [hw1] at HB1
 have HB1:Hid (Below wb.heap.size wb w1):=Lib.hid (by rw [hw1];exact Below.refl _ _)
 clear hw1
 have kc:=conv4 w1 80 67 77 49
 have hz1:=HB1.out.size
 obtain ⟨w2,hw2⟩:∃ x,x=w1.alloc (.cells (zm 80 67 77 49) 5 (4,5)):=⟨_,rfl⟩
 have hb2:Below w1.heap.size w1 w2:=by rw [hw2];exact (Below.refl _ w1).alloc (Nat.le_refl _) _
 have hs2:Src w2 (some ⟨w1.heap.size,0,none⟩) 4 [80,67,77,49]:=by rw [hw2];exact src4 (aL w1 _)
 rw [← hw2] at kc
 have HG2:=Lib.hid (Below.blk hb2 rZ.out (aR rZ.out))
 have hb3:=(Below.refl _ w2).alloc (Nat.le_refl _) (.cells #[.int .i64 v, .int .i64 b] 3)
 have HG3:=Lib.hid (Below.blk hb3 HG2.out (aR HG2.out))
 have HB3:=Lib.hid ((HB1.out.trans (hb2.mono hz1)).trans (hb3.mono (Nat.le_trans hz1 hb2.size)))
 have HQ:=Lib.hid (HP1.out _ _ _ 4 (hs2.below hb3) (Ud w2 v b))
 have HZ3:Hid (wb.heap.size≤(w2.alloc (.cells #[.int .i64 v, .int .i64 b] 3)).heap.size):=Lib.hid HB3.out.size
 have c0:w2.cell? ⟨w.heap.size,0,none⟩=some (.int .i64 v):=by rw [aG HG2.out];exact HM0.out
 have c1:w2.cell? ⟨w.heap.size,1,none⟩=some (.int .i64 b):=by rw [aG HG2.out];exact F5.out
 unfold zm at kc
 clear hw2 hb2 hs2 hb3 hz1
 go_upto_region 4 with ((with_reducible show Calls _ 26 _ _ _);go_at_call 26; refine HQ.out.mono ?_;rintro e w4 ⟨v4,rfl,ho,hb⟩;have HO4:=Lib.hid (ho.mono HZ3.out);have HG4:=Lib.hid (Below.blk hb HG3.out (aR HG3.out));have qE:=Lib.hid (HB3.out.trans (hb.mono HZ3.out));clear ho hb)
 clear kc c0 c1 HQ HZ3 HG3 HB3 HG2 rZ HB1
 have k34:w4.cell? ⟨w.heap.size,34,none⟩=some (.slice sw 80 cw):=by rw [aG HG4.out];exact pY.out
 refine wp_region_held_drew (S:=fun u=>Below wb.heap.size wb u∧u.cell? ⟨w.heap.size,34,none⟩=some (.slice sw 80 cw)) (by kernel_rfl) (⟨qE.out.drew,k34⟩) (fun hHeld=>?_)
 refine wpAnyH_take (i:=0) (oi:=(⟨some 40,_,_,_,_,none⟩:Oper)) (v:=v4) rfl (by kernel_rfl) (by kernel_rfl) (by kernel_rfl) (fun _ _ _ h=>h) (Or.inl ⟨by rfl,?hy115⟩) (by assumption) ?Ov
 case hy115=>(intro u dW;(try dsimp only at dW);go_simp;try (with_reducible rfl))
 (try simp only [Act.put,sA,sZ,sS])
 refine wpAnyH_take (i:=1) (oi:=(⟨some 41,_,_,_,_,none⟩:Oper)) (v := .pointer (some ⟨w.heap.size,2,none⟩)) rfl (by kernel_rfl) (by kernel_rfl) (by kernel_rfl) (fun _ _ _ h=>h) (Or.inl ⟨by rfl,?VH⟩) (by assumption) ?rest116
 case VH=>(intro u dW;(try dsimp only at dW);go_simp;try (with_reducible rfl))
 (try simp only [Act.put,sA,sZ,sS])
 refine wpAnyH_take (i:=2) (oi:=(⟨some 42,_,_,_,_,none⟩:Oper)) (v := .slice (some ⟨w.heap.size,2,none⟩) 32 32) rfl (by kernel_rfl) (by kernel_rfl) (by kernel_rfl) (fun _ _ _ h=>h) (Or.inl ⟨by rfl,?hy117⟩) (by assumption) ?rest117
 case hy117=>(intro u dW;(try dsimp only at dW);go_simp;try (with_reducible rfl))
 (try simp only [Act.put,sA,sZ,sS])
 refine wpAnyH_take (i:=4) (oi:=(⟨some 44,_,_,_,_,none⟩:Oper)) (v := .pointer (some ⟨w.heap.size,34,none⟩)) rfl (by kernel_rfl) (by kernel_rfl) (by kernel_rfl) (fun _ _ _ h=>h) (Or.inl ⟨by rfl,?VG⟩) (by assumption) ?Ou
 case VG=>(intro u dW;(try dsimp only at dW);go_simp;try (with_reducible rfl))
 (try simp only [Act.put,sA,sZ,sS])
 refine wpAnyH_take (i:=5) (oi:=(⟨some 45,_,_,_,_,none⟩:Oper)) (v := .slice sw 80 cw) rfl (by kernel_rfl) (by kernel_rfl) (by kernel_rfl) (fun _ _ _ h=>h) (Or.inl ⟨by rfl,?VF⟩) (by assumption) ?Ot
 case VF=>(intro u dW;(try dsimp only at dW);obtain ⟨-, k0⟩:=dW;go_simp;try (with_reducible rfl))
 (try simp only [Act.put,sA,sZ,sS])
 refine wpAnyH_ready (rs:=[3]) (by kernel_rfl) (by simp) ?_
 refine AllReadyH.cons (o:=(⟨some 43,_,_,_,_,none⟩:Oper)) rfl (fun K hK=>?_) AllReadyH.nil
 have hsr4:=(ET.out w4.drew HG4.out).1
 refine fQ rfl (.tmp 40) (.tmp 42) rfl wb.heap.size v4 T1 rfl HO4.out (some ⟨w.heap.size,2,none⟩) 32 32 ro rfl hsr4 (by rw [oH.out];decide) qE.out.size ?_
 intro v5 w5 how hgr _ _
 have Sv:=Lib.hid how
 have hb5:=aQ HO4.out.drew hgr qE.out.drew qE.out.size
 have gu:=Lib.hid hb5
 have HG5:Hid (w5.heap[w.heap.size]? = some (.cells M 30 (0,0))):=Lib.hid (by rw [hb5.block _ og.out];exact HG.out)
 clear how hgr hb5 hsr4
 have k35:w5.cell? ⟨w.heap.size,34,none⟩=some (.slice sw 80 cw):=by rw [aG HG5.out];exact pY.out
 refine hK.out _ _ (⟨gu.out,k35⟩) (fun hHeld=>?_)
 clear hK K
 (try simp only [Act.put,sA,sZ,sS])
 refine wpAnyH_ready (rs:=[6]) (by kernel_rfl) (by simp) ?_
 refine AllReadyH.cons (o:=(⟨some 46,_,_,_,_,none⟩:Oper)) rfl (fun K hK=>?_) AllReadyH.nil
 refine fQ rfl (.tmp 43) (.tmp 45) rfl wb.heap.size v5 (T1 ++ ro) rfl Sv.out sw 80 cw ws rfl (HW.out.below gu.out) (by rw [List.length_append,oH.out,iK.out];decide) gu.out.size ?_
 intro v6 w6 how hgr _ _
 have Jh:=Lib.hid how
 have hb6:=aQ Sv.out hgr gu.out gu.out.size
 have kQ:=Lib.hid hb6
 have mU:Hid (w6.heap[w.heap.size]? = some (.cells M 30 (0,0))):=Lib.hid (by rw [hb6.block _ og.out];exact HG.out)
 clear how hgr hb6
 have k36:w6.cell? ⟨w.heap.size,34,none⟩=some (.slice sw 80 cw):=by rw [aG mU.out];exact pY.out
 refine hK.out _ _ (⟨kQ.out,k36⟩) (fun hHeld=>?_)
 clear hK K
 (try simp only [Act.put,sA,sZ,sS])
 refine wpAnyH_take (i:=7) (oi:=(⟨some 4,_,_,_,_,none⟩:Oper)) (v:=v6) rfl (by kernel_rfl) (by kernel_rfl) (by kernel_rfl) (fun _ _ _ h=>h) (Or.inl ⟨by rfl,?VE⟩) (by assumption) ?Oq
 case VE=>(intro u dW;(try dsimp only at dW);go_simp;try (with_reducible rfl))
 (try simp only [Act.put,sA,sZ,sS])
 refine wpAnyH_done (by kernel_rfl) ?_ _
 (try simp only [Exit.then])
 clear k34 k35 k36 hHeld
 have hl6:(T1 ++ ro ++ ws).length=132:=by rw [List.length_append,List.length_append,oH.out,iK.out,vN.out]
 obtain ⟨s6,c6,e6, -, -, hs6, -⟩:=Jh.out.form
 rw [hl6] at e6 hs6
 subst e6
 have HS6:=Lib.hid hs6
 clear hl6 hs6
 have c3:w6.cell? ⟨w.heap.size,35,none⟩=some (.int .i64 i):=by rw [aG mU.out];exact HM35.out
 have dV:=(Below.refl _ w6).alloc (Nat.le_refl _) (.cells #[.int .i64 i] 3)
 have eX:=Lib.hid (kQ.out.trans (dV.mono kQ.out.size))
 have HG7:=Lib.hid (Below.blk dV mU.out (aR mU.out))
 have HQ7:=Lib.hid (Jg.out _ s6 132 c6 _ (HS6.out.below dV) (Gr w6 i) (by decide))
 clear dV
 go_upto_region 6 with ((with_reducible show Calls _ 26 _ _ _);go_at_call 26; refine HQ7.out.mono ?_;rintro e w8 ⟨v8,rfl,ho,hb⟩;have HO8:=Lib.hid (ho.mono eX.out.size);have fM:=Lib.hid (eX.out.trans (hb.mono eX.out.size));have S9:=Lib.hid (Below.blk hb HG7.out (aR HG7.out));clear ho hb)
 clear c3
 refine wp_region_held_drew (S:=fun u=>Below wb.heap.size wb u) (by kernel_rfl) (fM.out.drew) (fun hHeld=>?_)
 refine wpAnyH_take (i:=0) (oi:=(⟨some 53,_,_,_,_,none⟩:Oper)) (v:=v8) rfl (by kernel_rfl) (by kernel_rfl) (by kernel_rfl) (fun _ _ _ h=>h) (Or.inl ⟨by rfl,?VD⟩) (by assumption) ?rest121
 case VD=>(intro u dW;(try dsimp only at dW);go_simp;try (with_reducible rfl))
 (try simp only [Act.put,sA,sZ,sS])
 refine wpAnyH_take (i:=1) (oi:=(⟨some 54,_,_,_,_,none⟩:Oper)) (v := .pointer (some ⟨w.heap.size,35,none⟩)) rfl (by kernel_rfl) (by kernel_rfl) (by kernel_rfl) (fun _ _ _ h=>h) (Or.inl ⟨by rfl,?VA⟩) (by assumption) ?rest122
 case VA=>(intro u dW;(try dsimp only at dW);go_simp;try (with_reducible rfl))
 (try simp only [Act.put,sA,sZ,sS])
 refine wpAnyH_take (i:=2) (oi:=(⟨some 55,_,_,_,_,none⟩:Oper)) (v := .pointer (some ⟨w.heap.size,36,none⟩)) rfl (by kernel_rfl) (by kernel_rfl) (by kernel_rfl) (fun _ _ _ h=>h) (Or.inl ⟨by rfl,?hy123⟩) (by assumption) ?rest123
 case hy123=>(intro u dW;(try dsimp only at dW);go_simp;try (with_reducible rfl))
 (try simp only [Act.put,sA,sZ,sS])
 refine wpAnyH_take (i:=3) (oi:=(⟨some 56,_,_,_,_,none⟩:Oper)) (v := .slice (some ⟨w.heap.size,36,none⟩) 32 32) rfl (by kernel_rfl) (by kernel_rfl) (by kernel_rfl) (fun _ _ _ h=>h) (Or.inl ⟨by rfl,?hy124⟩) (by assumption) ?rest124
 case hy124=>(intro u dW;(try dsimp only at dW);go_simp;try (with_reducible rfl))
 (try simp only [Act.put,sA,sZ,sS])
 refine wpAnyH_take (i:=5) (oi:=(⟨some 58,_,_,_,_,none⟩:Oper)) (v := .pointer (some ⟨w.heap.size,35,none⟩)) rfl (by kernel_rfl) (by kernel_rfl) (by kernel_rfl) (fun _ _ _ h=>h) (Or.inl ⟨by rfl,?hy125⟩) (by assumption) ?rest125
 case hy125=>(intro u dW;(try dsimp only at dW);go_simp;try (with_reducible rfl))
 (try simp only [Act.put,sA,sZ,sS])
 refine wpAnyH_take (i:=6) (oi:=(⟨some 59,_,_,_,_,none⟩:Oper)) (v := .pointer (some ⟨w.heap.size,68,none⟩)) rfl (by kernel_rfl) (by kernel_rfl) (by kernel_rfl) (fun _ _ _ h=>h) (Or.inl ⟨by rfl,?Vz⟩) (by assumption) ?Oo
 case Vz=>(intro u dW;(try dsimp only at dW);go_simp;try (with_reducible rfl))
 (try simp only [Act.put,sA,sZ,sS])
 refine wpAnyH_take (i:=7) (oi:=(⟨some 60,_,_,_,_,none⟩:Oper)) (v := .slice (some ⟨w.heap.size,68,none⟩) 64 64) rfl (by kernel_rfl) (by kernel_rfl) (by kernel_rfl) (fun _ _ _ h=>h) (Or.inl ⟨by rfl,?Vy⟩) (by assumption) ?Om
 case Vy=>(intro u dW;(try dsimp only at dW);go_simp;try (with_reducible rfl))
 (try simp only [Act.put,sA,sZ,sS])
 refine wpAnyH_ready (rs:=[4]) (by kernel_rfl) (by simp) ?_
 refine AllReadyH.cons (o:=(⟨some 57,_,_,_,_,none⟩:Oper)) rfl (fun K hK=>?_) AllReadyH.nil
 have hsr8:=(ET.out w8.drew S9.out).2.1
 refine fQ rfl (.tmp 53) (.tmp 56) rfl wb.heap.size v8 T3 rfl HO8.out (some ⟨w.heap.size,36,none⟩) 32 32 ks rfl hsr8 (by rw [HL3.out];decide) fM.out.size ?_
 intro v9 w9 how hgr _ _
 have HO9:=Lib.hid how
 have dG:=aQ HO8.out.drew hgr fM.out.drew fM.out.size
 have qd:=Lib.hid dG
 have HG9:Hid (w9.heap[w.heap.size]? = some (.cells M 30 (0,0))):=Lib.hid (by rw [dG.block _ og.out];exact HG.out)
 clear how hgr dG hsr8
 refine hK.out _ _ (qd.out) (fun hHeld=>?_)
 clear hK K
 (try simp only [Act.put,sA,sZ,sS])
 refine wpAnyH_ready (rs:=[8]) (by kernel_rfl) (by simp) ?_
 refine AllReadyH.cons (o:=(⟨some 61,_,_,_,_,none⟩:Oper)) rfl (fun K hK=>?_) AllReadyH.nil
 have hsr9:=(ET.out _ HG9.out).2.2
 refine fQ rfl (.tmp 57) (.tmp 60) rfl wb.heap.size v9 (T3 ++ ks) rfl HO9.out (some ⟨w.heap.size,68,none⟩) 64 64 gs rfl hsr9 (by rw [List.length_append,HL3.out,l9.out];decide) qd.out.size ?_
 intro v10 TH how hgr _ _
 have pX:=Lib.hid how
 have HB10:=Lib.hid (aQ HO9.out hgr qd.out qd.out.size)
 clear how hgr hsr9
 refine hK.out _ _ (HB10.out) (fun hHeld=>?_)
 clear hK K
 (try simp only [Act.put,sA,sZ,sS])
 refine wpAnyH_take (i:=9) (oi:=(⟨some 2,_,_,_,_,none⟩:Oper)) (v:=v10) rfl (by kernel_rfl) (by kernel_rfl) (by kernel_rfl) (fun _ _ _ h=>h) (Or.inl ⟨by rfl,?hy128⟩) (by assumption) ?Ol
 case hy128=>(intro u dW;(try dsimp only at dW);go_simp;try (with_reducible rfl))
 (try simp only [Act.put,sA,sZ,sS])
 refine wpAnyH_take (i:=10) (oi:=(⟨some 3,_,_,_,_,none⟩:Oper)) (v := .int .i64 0) rfl (by kernel_rfl) (by kernel_rfl) (by kernel_rfl) (fun _ _ _ h=>h) (Or.inl ⟨by rfl,?Vx⟩) (by assumption) ?rest129
 case Vx=>(intro u dW;(try dsimp only at dW);go_simp;try (with_reducible rfl))
 (try simp only [Act.put,sA,sZ,sS])
 refine wpAnyH_done (by kernel_rfl) ?_ _
 (try simp only [Exit.then])
 go_wp2_with fail
 all_goals (try simp only [Exit.then])
 go_ret2
 exact ⟨_,rfl,pX.out.mono (Nat.le_of_lt og.out),HB0.out.trans (HB10.out.mono (Nat.le_of_lt og.out))⟩
end Go.Proofs.YthdgbgleklkaiaaDoor.Mf
namespace Go.Proofs.YthdgbgleklkaiaaDoor.Mf
open Go.RowKit Lm Fp Cu Sl Sc Ce
theorem DY {ro ks gs ss:List Int} (v b i:Int) (sw:Option Addr) (nw cw:Nat) (w:World) (h1:ro.length=32) (h2:ks.length=32) (h3:gs.length=64) (h4:ss.length=64) (hm:iJ v b nw i=false) :
  Calls Tryd.prog 12 #[.agg (aZ v b ro (.slice sw nw cw) i ks gs ss)] w fun e w'=>e = .returned (.tuple #[.slice none 0 0, .int .i64 1])∧Below w.heap.size w w':=by
 have c0:(w.alloc (.cells (aZ v b ro (.slice sw nw cw) i ks gs ss) 30)).cell? ⟨w.heap.size,0,none⟩=some (.int .i64 v):=by rw [aG (aL w _)];exact uY
 have c1:(w.alloc (.cells (aZ v b ro (.slice sw nw cw) i ks gs ss) 30)).cell? ⟨w.heap.size,1,none⟩=some (.int .i64 b):=by rw [aG (aL w _)];exact lW
 have c2:(w.alloc (.cells (aZ v b ro (.slice sw nw cw) i ks gs ss) 30)).cell? ⟨w.heap.size,34,none⟩=some (.slice sw nw cw):=by rw [aG (aL w _)];exact gI h1
 have c3:(w.alloc (.cells (aZ v b ro (.slice sw nw cw) i ks gs ss) 30)).cell? ⟨w.heap.size,35,none⟩=some (.int .i64 i):=by rw [aG (aL w _)];exact nH h1
 have HB:=Lib.hid ((Below.refl _ w).alloc (Nat.le_refl _) (.cells (aZ v b ro (.slice sw nw cw) i ks gs ss) 30))
 have hs1:=fun u=>gM v u
 have hs2:=fun u=>gM i u
 have HS2:=Lib.hid hs2
 clear h1 h2 h3 h4 hs2
 generalize aZ v b ro (.slice sw nw cw) i ks gs ss=M at c0 c1 c2 c3 HB ⊢
 cases hv:xu v with
 | false =>
  rw [hv] at hs1
  have gY:=Lib.hid hs1
  clear hs1 hm
  go_enter Tryd.func12, Tryd.ntmps12
  go_wp2_with (first|((with_reducible show Calls _ 25 #[.int .i64 v] _ _);go_at_call 25; refine (gY.out _).mono ?_;rintro e w' ⟨rfl,rfl⟩)|((with_reducible show Calls _ 25 #[.int .i64 i] _ _);go_at_call 25; refine (HS2.out _).mono ?_;rintro e w' ⟨rfl,rfl⟩))
  all_goals (try simp only [Exit.then])
  go_ret2
  exact ⟨rfl,HB.out⟩
 | true =>
  rw [hv] at hs1
  have gY:=Lib.hid hs1
  clear hs1
  by_cases hb1:b < 1
  ·clear hm
   go_enter Tryd.func12, Tryd.ntmps12
   go_wp2_with (first|((with_reducible show Calls _ 25 #[.int .i64 v] _ _);go_at_call 25; refine (gY.out _).mono ?_;rintro e w' ⟨rfl,rfl⟩)|((with_reducible show Calls _ 25 #[.int .i64 i] _ _);go_at_call 25; refine (HS2.out _).mono ?_;rintro e w' ⟨rfl,rfl⟩))
   all_goals (try simp only [Exit.then])
   go_ret2
   exact ⟨rfl,HB.out⟩
  ·by_cases hb2:(32:Int) < b
   ·clear hm
    go_enter Tryd.func12, Tryd.ntmps12
    go_wp2_with (first|((with_reducible show Calls _ 25 #[.int .i64 v] _ _);go_at_call 25; refine (gY.out _).mono ?_;rintro e w' ⟨rfl,rfl⟩)|((with_reducible show Calls _ 25 #[.int .i64 i] _ _);go_at_call 25; refine (HS2.out _).mono ?_;rintro e w' ⟨rfl,rfl⟩))
    all_goals (try simp only [Exit.then])
    go_ret2
    exact ⟨rfl,HB.out⟩
   ·by_cases hn:nw=80
    ·subst hn
     have hi:xu i=false:=by
      cases h:xu i with
      | false=>rfl
      | true=>exfalso;simp [iJ,hv,h] at hm;omega
     have hs2:=HS2.out
     rw [hi] at hs2
     have HS2:=Lib.hid hs2
     clear hm hs2
     go_enter Tryd.func12, Tryd.ntmps12
     go_wp2_with (first|((with_reducible show Calls _ 25 #[.int .i64 v] _ _);go_at_call 25; refine (gY.out _).mono ?_;rintro e w' ⟨rfl,rfl⟩)|((with_reducible show Calls _ 25 #[.int .i64 i] _ _);go_at_call 25; refine (HS2.out _).mono ?_;rintro e w' ⟨rfl,rfl⟩))
     all_goals (try simp only [Exit.then])
     go_ret2
     exact ⟨rfl,HB.out⟩
    ·have hn2:((nw:Int) == 80)=false:=by rw [beq_eq_false_iff_ne];omega
     clear hm
     go_enter Tryd.func12, Tryd.ntmps12
     go_wp2_with (first|((with_reducible show Calls _ 25 #[.int .i64 v] _ _);go_at_call 25; refine (gY.out _).mono ?_;rintro e w' ⟨rfl,rfl⟩)|((with_reducible show Calls _ 25 #[.int .i64 i] _ _);go_at_call 25; refine (HS2.out _).mono ?_;rintro e w' ⟨rfl,rfl⟩))
     all_goals (try simp only [Exit.then])
     go_ret2
     exact ⟨rfl,HB.out⟩
theorem Cj {ro ks gs ss ws:List Int} (v b i:Int) (sw:Option Addr) (nw cw:Nat) (w:World) (h1:ro.length=32) (h2:ks.length=32) (h3:gs.length=64) (h4:ss.length=64) (hws:Src w sw nw ws) :
  Calls Tryd.prog 12 #[.agg (aZ v b ro (.slice sw nw cw) i ks gs ss)] w fun e w'=>∃ vv,e = .returned (.tuple #[vv, .int .i64 (if iJ v b nw i then 0 else 1)])∧aV w' w.heap.size vv (if iJ v b nw i then dF v b ro ws i ks gs else [])∧Below w.heap.size w w':=by
 cases hm:iJ v b nw i with
 | true =>
  have h80:nw=80:=by
   have h:=hm
   simp only [iJ,Bool.and_eq_true,decide_eq_true_eq] at h
   exact h.1.2
  subst h80
  exact DX v b i sw cw w h1 h2 h3 h4 hws hm
 | false =>
  refine (DY v b i sw nw cw w h1 h2 h3 h4 hm).mono ?_
  rintro e w' ⟨rfl,hb⟩
  exact ⟨_,rfl,aV.nil _ _,hb⟩
theorem kL {ro ks gs ss ws:List Int} (v b i:Int) (sw:Option Addr) (nw cw:Nat) (w:World) (h1:ro.length=32) (h2:ks.length=32) (h3:gs.length=64) (h4:ss.length=64) (hws:Src w sw nw ws) :
  Calls Tryd.prog 6 #[.agg (aZ v b ro (.slice sw nw cw) i ks gs ss)] w fun e w'=>∃ vv,e = .returned (.tuple #[vv, .int .i64 (if iJ v b nw i then 0 else 1)])∧aV w' w.heap.size vv (if iJ v b nw i then dF v b ro ws i ks gs ++ ss else [])∧Below w.heap.size w w':=by
 have hb:=(Below.refl _ w).alloc (Nat.le_refl _) (.cells (aZ v b ro (.slice sw nw cw) i ks gs ss) 30)
 have Ja:=fun (u:World) (k:Below (w.alloc (.cells (aZ v b ro (.slice sw nw cw) i ks gs ss) 30)).heap.size (w.alloc (.cells (aZ v b ro (.slice sw nw cw) i ks gs ss) 30)) u)=>Cj (ks:=ks) (gs:=gs) (ss:=ss) v b i sw nw cw u h1 h2 h3 h4 ((hws.below hb).below k)
 have SF:=bL (v:=v) (b:=b) (i:=i) (wv := .slice sw nw cw) h1 h2 h3 h4
 have mg:=xQ (v:=v) (b:=b) (i:=i) (ss:=ss) (wv := .slice sw nw cw) h1 h2 h3
 have hbl:iJ v b nw i=true→(dF v b ro ws i ks gs).length≤300:=by
  intro h
  simp only [iJ,Bool.and_eq_true,decide_eq_true_eq] at h
  have:=hws.len
  rw [dF,List.length_append,List.length_append,fU,List.length_append,List.length_append,fU,h1,h2,h3,this,h.1.2]
  simp
 obtain ⟨M,hM⟩:∃ M,M=aZ v b ro (.slice sw nw cw) i ks gs ss:=⟨_,rfl⟩
 rw [← hM] at hb Ja SF mg ⊢
 generalize dF v b ro ws i ks gs=T at Ja hbl ⊢
 have hg0:(w.alloc (.cells M 30)).heap[w.heap.size]? = some (.cells M 30 (0,0)):=aL w _
 have HG:=Lib.hid hg0
 have HB:=Lib.hid hb
 have og:Hid (w.heap.size < (w.alloc (.cells M 30)).heap.size):=Lib.hid (by simp)
 have MG:Hid ((Tryd.prog.info? 30).map (·.size)=some M.size):=Lib.hid (by rw [SF];kernel_rfl)
 have HMG:=Lib.hid mg
 have PX:=Lib.hid Ja
 have HSL:=Lib.hid h4
 clear hg0 hb SF mg Ja hM h1 h2 h3 h4 hws
 cases hm:iJ v b nw i with
 | false =>
  rw [hm] at PX
  clear hbl
  go_enter Tryd.func6, Tryd.ntmps6
  go_upto_region 1 with fail
  generalize w.alloc (.cells M 30)=wb at HG HB og PX ⊢
  go_wp2_with (first|((with_reducible refine aS 7 ?_);refine wpList_load_row rfl 30 _ rfl (w.heap.size) rfl 30 _ (0,0) _ HG.out Tryd.underlying30 rfl MG.out ?_)|((with_reducible show Calls _ 12 _ _ _);go_at_call 12; refine (PX.out _ (Below.refl _ _)).mono ?_;rintro e w1 ⟨v1,rfl,ho,hb1⟩;have HB1:=Lib.hid (HB.out.trans (hb1.mono HB.out.size));clear ho hb1))
  all_goals (try simp only [Exit.then])
  go_ret2
  exact ⟨_,rfl,aV.nil _ _,HB1.out⟩
 | true =>
  rw [hm] at PX
  have uE:=Lib.hid (hbl hm)
  clear hbl
  go_enter Tryd.func6, Tryd.ntmps6
  go_upto_region 1 with fail
  generalize w.alloc (.cells M 30)=wb at HG HB og PX ⊢
  go_wp2_with (first|((with_reducible refine aS 7 ?_);refine wpList_load_row rfl 30 _ rfl (w.heap.size) rfl 30 _ (0,0) _ HG.out Tryd.underlying30 rfl MG.out ?_)|((with_reducible show Calls _ 12 _ _ _);go_at_call 12; refine (PX.out _ (Below.refl _ _)).mono ?_;rintro e w1 ⟨v1,rfl,ho,hb1⟩;have HO:=Lib.hid ho;have HB1:=Lib.hid hb1;have ET:Hid (Src w1 (some ⟨w.heap.size,132,none⟩) 64 ss):=Lib.hid (by have:=sQ (Below.blk hb1 HG.out (aR HG.out)) 132 HMG.out;rwa [HSL.out] at this);clear ho hb1)|((with_reducible refine aS 17 ?_);refine aO rfl (.tmp 14) (.tmp 16) rfl wb.heap.size v1 T rfl HO.out (some ⟨w.heap.size,132,none⟩) 64 64 ss rfl ET.out (by have:=uE.out;omega) HB1.out.size ?_;intro v2 w2 how hgr _ _;have BM:=Lib.hid how;have HB2:=Lib.hid (aQ HO.out hgr HB1.out HB1.out.size);clear how hgr))
  all_goals (try simp only [Exit.then])
  go_ret2
  exact ⟨_,rfl,BM.out.mono (Nat.le_of_lt og.out),HB.out.trans (HB2.out.mono (Nat.le_of_lt og.out))⟩
end Go.Proofs.YthdgbgleklkaiaaDoor.Mf
