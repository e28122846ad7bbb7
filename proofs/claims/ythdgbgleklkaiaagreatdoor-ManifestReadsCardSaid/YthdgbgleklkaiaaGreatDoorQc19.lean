/- The document's Block: chacha.Turn and the document's: The document's T. Condition: as each theorem says. -/

import Derived.Test.YthdgbgleklkaiaaGreatDoorQc18
open Go.Lib renaming hid→abC
open List renaming replicate→abD,take_of_length_le→abF,drop_zero→abI,range→abJ,length_replicate→abN,append_nil→abO,nil_append→abQ
open BitVec renaming ofInt→abE,toNat_and→abL,toNat_ofInt→abM
open Nat renaming zero_le→abG,le_refl→abH,and_two_pow_sub_one_eq_mod→abK
set_option linter.unusedSimpArgs false
set_option linter.unusedVariables false
set_option maxRecDepth 100000
set_option maxHeartbeats 16000000
namespace Go.Proofs.YthdgbgleklkaiaaGreatDoor.Ch
open Go.RowKit
theorem uw (y:Int):IntKind.u8.wrap (bits .and .u32 y 255)=y % 256:=by
 have h2:(abE 32 (255:Int)).toNat=255:=by decide
 have e:∀ x:Nat,x &&& 255=x % 256:=fun x=>abK x 8
 show IntKind.u8.wrap (IntKind.u32.wrap ((abE 32 y &&& abE 32 (255:Int)).toNat:Int))=_
 rw [abL,h2,e,abM,IntKind.wrap_u8,IntKind.wrap_u32]
 omega
theorem NK (c:Int):bits .and .i64 c 4294967295=c % 4294967296:=by
 have h2:(abE 64 (4294967295:Int)).toNat=4294967295:=by decide
 have e:∀ x:Nat,x &&& 4294967295=x % 4294967296:=fun x=>abK x 32
 show IntKind.i64.wrap ((abE 64 c &&& abE 64 (4294967295:Int)).toNat:Int)=_
 rw [abL,h2,e,abM,IntKind.wrap_i64]
 omega
theorem gL (p:Nat) (s:List Int) (a b c d:Nat) (ia ib ic id:Int) (w:World) (hp:w.heap[p]? = some (.cells (arr .u32 s) 235 (0,0))) (hl:s.length=16) (ha:a < 16) (hb:b < 16) (hc:c < 16) (hd:d < 16) (ea:ia=a) (eb:ib=b) (ec:ic=c) (ed:id=d) :
  Calls Tryz.prog 206 #[.pointer (some ⟨p,0,none⟩), .int .i64 ia, .int .i64 ib, .int .i64 ic, .int .i64 id] w fun e w'=>e = .returned (.tuple #[])∧w'.heap[p]? = some (.cells (arr .u32 (quarter s a b c d)) 235 (0,0))∧Kept (fun x=>x=p) w w':=by
 subst ea eb ec ed
 exact EP p s a b c d w hp hl ha hb hc hd
theorem dbl (v:List Int):quarter (quarter (quarter (quarter (quarter (quarter (quarter (quarter v 0 4 8 12) 1 5 9 13) 2 6 10 14) 3 7 11 15) 0 5 10 15) 1 6 11 12) 2 7 8 13) 3 4 9 14=diags (JH v 4) 4:=by simp [JH,diags,List.range_succ]
theorem Bk.drewN {w wr:World} {g h:Nat} {s v:List Int} (b:Bk w wr g h s v) (n:Nat):Bk w (wr.drewN n) g h s v:=⟨b.br,b.bs,b.bv,⟨b.below.os,b.below.tape,b.below.output,b.below.size,b.below.block⟩,b.lt,b.gh⟩
structure Bo (w wr:World) (key aM s:List Int):Prop where
 bk:wr.heap[w.heap.size]? = some (.cells (arr .u8 key) 25 (0,0))
 bn:wr.heap[w.heap.size+1]? = some (.cells (arr .u8 aM) 135 (0,0))
 br:wr.heap[w.heap.size+1+1]? = some (.cells (arr .u8 (abD 64 0)) 27 (0,0))
 bs:wr.heap[w.heap.size+1+1+1]? = some (.cells (arr .u32 s) 235 (0,0))
 below:Below w.heap.size w wr
theorem Bo.start (w:World) (key aM s:List Int):Bo w ((((w.alloc (.cells (arr .u8 key) 25)).alloc (.cells (arr .u8 aM) 135)).alloc (.cells (arr .u8 (abD 64 0)) 27)).alloc (.cells (arr .u32 s) 235)) key aM s:=by
 have e1:∀ o,(w.alloc o).heap.size=w.heap.size+1:=by simp
 have e2:∀ o p,((w.alloc o).alloc p).heap.size=w.heap.size+1+1:=by simp
 have e3:∀ o p q,(((w.alloc o).alloc p).alloc q).heap.size=w.heap.size+1+1+1:=by simp
 refine ⟨aY (aY (aY (aH w _) _) _) _,?_,?_,?_,((((Below.refl _ w).alloc (abH _) _).alloc (by rw [e1];omega) _).alloc (by rw [e2];omega) _).alloc (by rw [e3];omega) _⟩
 ·rw [← e1]
  exact aY (aY (aH _ _) _) _
 ·rw [← e2]
  exact aY (aH _ _) _
 ·rw [← e3]
  exact aH _ _
theorem Bo.drewN {w wr:World} {key aM s:List Int} (h:Bo w wr key aM s) (n:Nat):Bo w (wr.drewN n) key aM s:=⟨h.bk,h.bn,h.br,h.bs,Go.Proofs.YthdgbgleklkaiaaGreatDoor.Below.drewN h.below n⟩
theorem Bo.set {w wr:World} {key aM s:List Int} (h:Bo w wr key aM s) (i:Nat) (x:Int):Bo w (wr.setCell ⟨w.heap.size+1+1+1,i,none⟩ (.int .u32 x)) key aM (s.set i x) :=
 ⟨ay h.bk _ (by omega),ay h.bn _ (by omega),ay h.br _ (by omega),bJ h.bs i x,h.below.setCell (p:=⟨w.heap.size+1+1+1,i,none⟩) (by simp;omega) _⟩
theorem nN (key aM:List Int) (c:Int) (w:World) (hk:key.length=32) (hn:aM.length=12) (bk:bytes key) (bn:bytes aM) :
  Calls Tryz.prog 180 #[.agg (arr .u8 key), .int .i64 c, .agg (arr .u8 aM)] w fun e w'=>e = .returned (.agg (arr .u8 (block key (c % 4294967296) aM)))∧Below w.heap.size w w':=by
 have al:=al32
 have al2:=al12
 have HK:=abC hk
 have HN:=abC hn
 have BK:=abC bk
 have BN:=abC bn
 obtain ⟨wA,hwA⟩:∃ wA,wA=((((w.alloc (.cells (arr .u8 key) 25)).alloc (.cells (arr .u8 aM) 135)).alloc (.cells (arr .u8 (abD 64 0)) 27)).alloc (.cells (arr .u32 (abD 16 0)) 235)):=⟨_,rfl⟩
 have s0:=Bo.start w key aM (abD 16 0)
 rw [← hwA] at s0
 have y0:=aJ s0.bs 0 (by simp)
 have y1:=aJ s0.bs 1 (by simp)
 have y2:=aJ s0.bs 2 (by simp)
 have y3:=aJ s0.bs 3 (by simp)
 have f0:=aC s0.bs 0
 have f1:=aC s0.bs 1
 have f2:=aC s0.bs 2
 have f3:=aC s0.bs 3
 have S0:=abC ((((s0.set 0 1634760805).set 1 857760878).set 2 2036477234).set 3 1797285236)
 have Oo:Hid (((((abD 16 (0:Int)).set 0 1634760805).set 1 857760878).set 2 2036477234).set 3 1797285236=lay [1634760805,857760878,2036477234,1797285236] (fun i=>word key (4 * i)) 0 12):=abC (by rfl)
 have HWA:=abC hwA
 have hc:=NK c
 clear hk hn bk bn hwA s0
 go_enter Tryz.func180, Tryz.ntmps180
 go_wp2_with (first|((with_reducible refine aS 6 ?_);refine ah rfl 27 rfl _ (zero64 _) ?_)|((with_reducible refine aS 7 ?_);refine ah rfl 235 rfl _ (U9 _) ?_;rw [← HWA.out]))
 have s1:=S0.out
 rw [Oo.out] at s1
 have S1:=abC s1
 clear s1 S0 Oo HWA y0 y1 y2 y3 f0 f1 f2 f3
 go_loopw [8] (fun i wr=>∃ n:Nat,n≤8∧i = .int .i64 n∧Bo w wr key aM (lay [1634760805,857760878,2036477234,1797285236] (fun i=>word key (4 * i)) n 12)) (fun i _=>8 - (intOf i).toNat)
 case atStart=>exact ⟨0,abG _,rfl,S1.out⟩
 clear S1
 case round =>
 obtain ⟨n,hn8,rfl,hB⟩:=hrel
 by_cases hlt:n < 8
 ·have HB:=abC hB
  have hsl:=Py 25 32 w.heap.size (4 * n) (by kernel_rfl) al (fun w=>by kernel_rfl) (by omega)
  rw [show ((4 * n:Nat):Int)=4 * (n:Int) by omega] at hsl
  have hc4:∀ j,j < 4→wr.cell? ⟨w.heap.size,4 * n+j,none⟩=some (.int .u8 (key.getD (4 * n+j) 0)):=fun j hj=>aJ hB.bk _ (by rw [HK.out];omega)
  have HC:=abC hc4
  have hfr:=aC hB.bs (4+n)
  have hce:=aJ hB.bs (4+n) (by rw [FR _ _ _ _ (by omega)];simp;omega)
  clear hB hc4
  go_wp2_with (go_at_call 205; refine (z8 w.heap.size (4 * n) (32 - 4 * n) (32 - 4 * n) key (4 * n) wr BK.out (by omega) (HC.out 0 (by omega)) (HC.out 1 (by omega)) (HC.out 2 (by omega)) (HC.out 3 (by omega))).mono ?_;rintro e w' ⟨rfl,k,rfl⟩)
  have hd:=HB.out.drewN k
  have HS:=abC (hd.set (4+n) (word key (4 * n)))
  have HL:=abC (FQ [1634760805,857760878,2036477234,1797285236] (fun i=>word key (4 * i)) n 12 (by omega))
  clear hsl HC hfr hce hd HB
  go_roundw
  case rel =>
   refine ⟨n+1,by omega,by go_num,?_⟩
   rw [← HL.out]
   exact HS.out
  case measure=>simp [intOf];omega
 ·have e8:n=8:=by omega
  rw [e8] at hB
  obtain ⟨pre,hpre⟩:∃ pre,pre=[1634760805,857760878,2036477234,1797285236] ++ (abJ 8).map fun i=>word key (4 * i):=⟨_,rfl⟩
  have hpl:pre.length=12:=by rw [hpre];simp
  obtain ⟨cc,hcc⟩:∃ cc,cc=c % 4294967296:=⟨_,rfl⟩
  have hcb:0≤cc:=by omega
  have hcb2:cc≤4294967295:=by omega
  rw [← hcc] at hc
  rw [Jb _ _ 8 12 (fun _=>cc) (by omega),← hpre] at hB
  have hc12:=aJ hB.bs 12 (by rw [FR _ _ _ _ (by omega)];omega)
  have hf12:=aC hB.bs 12
  have hs12:=FQ pre (fun _=>cc) 0 4 (by omega)
  rw [hpl,Jb _ _ (0+1) 4 (fun i=>word aM (4 * i)) (by omega)] at hs12
  have hB2:=hB.set 12 cc
  rw [show (12:Nat)=12+0 by rfl,hs12] at hB2
  obtain ⟨KT,Qu⟩:∃ KT,KT=pre ++ (abJ (0+1)).map fun _=>cc:=⟨_,rfl⟩
  rw [← Qu] at hB2
  have hpl2:KT.length=13:=by rw [Qu];simp;omega
  have hend:KT ++ ((abJ 3).map fun i=>word aM (4 * i))=begin key cc aM:=by rw [Qu,hpre];rfl
  have HB2:=abC hB2
  have Ej:=abC hpl2
  have HE:=abC hend
  have HCC:=abC hcc
  clear hB hs12 hB2 hpre Qu hpl hpl2 hend e8 hcc
  go_wp2_with fail
  clear hc12 hf12
  generalize Value.bool (decide ((n:Int) < 8))=u20
  go_loopw [9] (fun i wr=>∃ n:Nat,n≤3∧i = .int .i64 n∧Bo w wr key aM (lay KT (fun i=>word aM (4 * i)) n 3)) (fun i _=>3 - (intOf i).toNat)
  case atStart=>exact ⟨0,abG _,rfl,HB2.out⟩
  clear HB2
  case round =>
  obtain ⟨n,hn8,rfl,hB⟩:=hrel
  by_cases hlt:n < 3
  ·have HB:=abC hB
   have hsl:=Py 135 12 (w.heap.size+1) (4 * n) (by kernel_rfl) al2 (fun w=>by kernel_rfl) (by omega)
   rw [show ((4 * n:Nat):Int)=4 * (n:Int) by omega] at hsl
   have hc4:∀ j,j < 4→wr.cell? ⟨w.heap.size+1,4 * n+j,none⟩=some (.int .u8 (aM.getD (4 * n+j) 0)):=fun j hj=>aJ hB.bn _ (by rw [HN.out];omega)
   have HC:=abC hc4
   have hfr:=aC hB.bs (13+n)
   have hce:=aJ hB.bs (13+n) (by rw [FR _ _ _ _ (by omega),Ej.out];omega)
   clear hB hc4
   go_wp2_with (go_at_call 205; refine (z8 (w.heap.size+1) (4 * n) (12 - 4 * n) (12 - 4 * n) aM (4 * n) wr BN.out (by omega) (HC.out 0 (by omega)) (HC.out 1 (by omega)) (HC.out 2 (by omega)) (HC.out 3 (by omega))).mono ?_;rintro e w' ⟨rfl,k,rfl⟩)
   have hd:=HB.out.drewN k
   have hl:=FQ KT (fun i=>word aM (4 * i)) n 3 (by omega)
   rw [Ej.out] at hl
   have HS:=abC (hd.set (13+n) (word aM (4 * n)))
   have HL:=abC hl
   clear hsl HC hfr hce hd HB hl
   go_roundw
   case rel =>
    refine ⟨n+1,by omega,by go_num,?_⟩
    rw [← HL.out]
    exact HS.out
   case measure=>simp [intOf];omega
  ·have e3:n=3:=by omega
   rw [e3] at hB
   rw [show lay KT (fun i=>word aM (4 * i)) 3 3=begin key cc aM by rw [← HE.out];simp [lay]] at hB
   obtain ⟨s,hs⟩:∃ s,s=begin key cc aM:=⟨_,rfl⟩
   rw [← hs] at hB
   have hsl:s.length=16:=by rw [hs];exact Uv _ _ _
   have hp:((arr .u32 s).toList.drop 0).take s.length=s.map (Value.int .u32):=by rw [abI,bN,abF (by simp)]
   have z1:(Tryz.prog.info? 235).map (·.size)=some s.length:=by rw [hsl];exact size16
   have z2:(Tryz.prog.info? 235).map (·.size)=some (arr .u32 s).size:=by rw [aD];exact z1
   have z3:(arr .u32 s).size=(arr .u32 (abD 16 0)).size:=by rw [aD,aD,hsl,abN]
   have hfin:fT (doubles s 10) s=block key (c % 4294967296) aM:=by rw [hs,HCC.out];rfl
   have HB:=abC hB
   have HP:=abC hp
   have Z1:=abC z1
   have Z2:=abC z2
   have Z3:=abC z3
   have HF:=abC hfin
   have HSL:=abC hsl
   obtain ⟨w2,hw2⟩:∃ w2,w2=wr:=⟨_,rfl⟩
   rw [← hw2] at HB ⊢
   clear hB hp z1 z2 z3 hs hsl hfin e3 hw2 HE Ej HCC
   go_wp2_with (first|((with_reducible refine aS 45 ?_);refine aB rfl 235 _ rfl (w.heap.size+1+1+1) 0 _ 235 (0,0) _ HB.out.bs rfl .u32 s HP.out Tryz.underlying235 rfl Z1.out ?_)|((with_reducible refine aS 10 ?_);refine ah rfl 235 rfl _ (U9 _) ?_)|((with_reducible show wpList _ _ _ (Oper.mk none (.store _ (.tmp 10) _) _ _ _ _ :: _) _ _);refine au rfl 235 _ _ rfl w2.heap.size _ _ 235 (aH w2 _) rfl rfl Z3.out Z2.out (ak _ _) ?_;intro w3 hb3 hk3 hz3;have HB3:=abC hb3;have GI:=abC hk3;clear hb3 hk3 hz3))
   have hB:Bk w w3 (w.heap.size+1+1+1) w2.heap.size s s:=by
    have h0:=aV HB.out.bs
    refine ⟨GI.out.blk (aY HB.out.br _) (by omega),GI.out.blk (aY HB.out.bs _) (by omega),HB3.out,?_,by omega,by omega⟩
    exact HB.out.below.trans (((Below.refl w.heap.size w2).alloc (by omega) _).trans (GI.out.toBelow (B:=w.heap.size) (by simp;omega) (by rintro i rfl;omega)))
   have HB0:=abC hB
   clear hB HB3 GI HB HP Z1 Z2 Z3
   generalize w2.heap.size=h at HB0 ⊢
   generalize Value.bool (decide ((n:Int) < 3))=u35
   go_loopw [11] (fun i wr=>∃ n:Nat,n≤10∧i = .int .i64 n∧Bk w wr (w.heap.size+1+1+1) h s (doubles s n)) (fun i _=>10 - (intOf i).toNat)
   case atStart=>exact ⟨0,abG _,rfl,HB0.out⟩
   clear HB0
   case round =>
   obtain ⟨m,hm8,rfl,hB⟩:=hrel
   by_cases hltm:m < 10
   ·obtain ⟨v0,hv⟩:∃ v,v=doubles s m:=⟨_,rfl⟩
    rw [← hv] at hB
    have hvl:v0.length=16:=by rw [hv,wV];exact HSL.out
    have HV:=abC hv
    have L0:=abC hvl
    have B0:=abC hB
    obtain ⟨w0,hw0⟩:∃ w0,w0=wr:=⟨_,rfl⟩
    rw [← hw0] at B0 ⊢
    clear hv hvl hB hw0
    obtain ⟨v1,hv1⟩:∃ t,t=quarter v0 0 4 8 12:=⟨_,rfl⟩
    have L1:Hid (v1.length=16):=abC (by rw [hv1,eU];exact L0.out)
    have V1:=abC hv1
    clear hv1
    obtain ⟨v2,hv2⟩:∃ t,t=quarter v1 1 5 9 13:=⟨_,rfl⟩
    have L2:Hid (v2.length=16):=abC (by rw [hv2,eU];exact L1.out)
    have V2:=abC hv2
    clear hv2
    obtain ⟨v3,hv3⟩:∃ t,t=quarter v2 2 6 10 14:=⟨_,rfl⟩
    have L3:Hid (v3.length=16):=abC (by rw [hv3,eU];exact L2.out)
    have V3:=abC hv3
    clear hv3
    obtain ⟨v4,hv4⟩:∃ t,t=quarter v3 3 7 11 15:=⟨_,rfl⟩
    have L4:Hid (v4.length=16):=abC (by rw [hv4,eU];exact L3.out)
    have V4:=abC hv4
    clear hv4
    obtain ⟨v5,hv5⟩:∃ t,t=quarter v4 0 5 10 15:=⟨_,rfl⟩
    have L5:Hid (v5.length=16):=abC (by rw [hv5,eU];exact L4.out)
    have V5:=abC hv5
    clear hv5
    obtain ⟨v6,hv6⟩:∃ t,t=quarter v5 1 6 11 12:=⟨_,rfl⟩
    have L6:Hid (v6.length=16):=abC (by rw [hv6,eU];exact L5.out)
    have V6:=abC hv6
    clear hv6
    obtain ⟨v7,hv7⟩:∃ t,t=quarter v6 2 7 8 13:=⟨_,rfl⟩
    have L7:Hid (v7.length=16):=abC (by rw [hv7,eU];exact L6.out)
    have V7:=abC hv7
    clear hv7
    obtain ⟨v8,hv8⟩:∃ t,t=quarter v7 3 4 9 14:=⟨_,rfl⟩
    have L8:Hid (v8.length=16):=abC (by rw [hv8,eU];exact L7.out)
    have V8:=abC hv8
    clear hv8
    go_wp2_with (first|((with_reducible show Calls _ _ _ w0 _);go_at_call 206; refine (gL h v0 0 4 8 12 0 4 8 12 w0 B0.out.bv L0.out (by omega) (by omega) (by omega) (by omega) (by rfl) (by rfl) (by rfl) (by rfl)).mono ?_;rintro e w1 ⟨rfl,hb4,hk4⟩;rw [← V1.out] at hb4;have B1:=abC (B0.out.kept hk4 hb4);clear hb4 hk4)|((with_reducible show Calls _ _ _ w1 _);go_at_call 206; refine (gL h v1 1 5 9 13 1 5 9 13 w1 B1.out.bv L1.out (by omega) (by omega) (by omega) (by omega) (by rfl) (by rfl) (by rfl) (by rfl)).mono ?_;rintro e w2 ⟨rfl,hb4,hk4⟩;rw [← V2.out] at hb4;have B2:=abC (B1.out.kept hk4 hb4);clear hb4 hk4)|((with_reducible show Calls _ _ _ w2 _);go_at_call 206; refine (gL h v2 2 6 10 14 2 6 10 14 w2 B2.out.bv L2.out (by omega) (by omega) (by omega) (by omega) (by rfl) (by rfl) (by rfl) (by rfl)).mono ?_;rintro e w3 ⟨rfl,hb4,hk4⟩;rw [← V3.out] at hb4;have B3:=abC (B2.out.kept hk4 hb4);clear hb4 hk4)|((with_reducible show Calls _ _ _ w3 _);go_at_call 206; refine (gL h v3 3 7 11 15 3 7 11 15 w3 B3.out.bv L3.out (by omega) (by omega) (by omega) (by omega) (by rfl) (by rfl) (by rfl) (by rfl)).mono ?_;rintro e w4 ⟨rfl,hb4,hk4⟩;rw [← V4.out] at hb4;have B4:=abC (B3.out.kept hk4 hb4);clear hb4 hk4)|((with_reducible show Calls _ _ _ w4 _);go_at_call 206; refine (gL h v4 0 5 10 15 0 5 10 15 w4 B4.out.bv L4.out (by omega) (by omega) (by omega) (by omega) (by rfl) (by rfl) (by rfl) (by rfl)).mono ?_;rintro e w5 ⟨rfl,hb4,hk4⟩;rw [← V5.out] at hb4;have B5:=abC (B4.out.kept hk4 hb4);clear hb4 hk4)|((with_reducible show Calls _ _ _ w5 _);go_at_call 206; refine (gL h v5 1 6 11 12 1 6 11 12 w5 B5.out.bv L5.out (by omega) (by omega) (by omega) (by omega) (by rfl) (by rfl) (by rfl) (by rfl)).mono ?_;rintro e w6 ⟨rfl,hb4,hk4⟩;rw [← V6.out] at hb4;have B6:=abC (B5.out.kept hk4 hb4);clear hb4 hk4)|((with_reducible show Calls _ _ _ w6 _);go_at_call 206; refine (gL h v6 2 7 8 13 2 7 8 13 w6 B6.out.bv L6.out (by omega) (by omega) (by omega) (by omega) (by rfl) (by rfl) (by rfl) (by rfl)).mono ?_;rintro e w7 ⟨rfl,hb4,hk4⟩;rw [← V7.out] at hb4;have B7:=abC (B6.out.kept hk4 hb4);clear hb4 hk4)|((with_reducible show Calls _ _ _ w7 _);go_at_call 206; refine (gL h v7 3 4 9 14 3 4 9 14 w7 B7.out.bv L7.out (by omega) (by omega) (by omega) (by omega) (by rfl) (by rfl) (by rfl) (by rfl)).mono ?_;rintro e w8 ⟨rfl,hb4,hk4⟩;rw [← V8.out] at hb4;have B8:=abC (B7.out.kept hk4 hb4);clear hb4 hk4))
    have gy:Hid (Bk w w8 (w.heap.size+1+1+1) h s (doubles s (m+1))):=abC (by rw [uh,← HV.out,← dbl,← V1.out,← V2.out,← V3.out,← V4.out,← V5.out,← V6.out,← V7.out,← V8.out];exact B8.out)
    clear B0 B1 B2 B3 B4 B5 B6 B7 B8
    go_roundw
    case rel=>exact ⟨m+1,by omega,by go_num,gy.out⟩
    case measure=>simp [intOf];omega
   ·have e4:m=10:=by omega
    rw [e4] at hB
    obtain ⟨v,hv⟩:∃ v,v=doubles s 10:=⟨_,rfl⟩
    have hvl:v.length=16:=by rw [hv,wV];exact HSL.out
    rw [← hv] at hB
    have hfin:=HF.out
    rw [← hv] at hfin
    have HF2:=abC hfin
    have vU:=abC hvl
    have gy:=abC (hB.alloc (.cells (arr .u8 (abD 64 0)) 27))
    have HX:Hid ((wr.alloc (.cells (arr .u8 (abD 64 0)) 27)).heap[wr.heap.size]? = some (.cells (arr .u8 ((fT v s).take 0 ++ abD (64 - 0) 0)) 27 (0,0))):=abC (aH _ _)
    have nC:Hid (h < wr.heap.size):=abC (aV hB.bv)
    clear hv hvl hB hfin HF e4
    go_wp2_with ((with_reducible refine aS 12 ?_);refine ah rfl 27 rfl _ (zero64 _) ?_)
    obtain ⟨q,hq⟩:∃ q,q=wr.heap.size:=⟨_,rfl⟩
    rw [← hq] at HX nC ⊢
    clear hq
    generalize Value.bool (decide ((m:Int) < 10))=u47
    go_loopw [13] (fun i wr=>∃ i9:Nat,i9≤64∧i = .int .i64 i9∧wr.heap[q]? = some (.cells (arr .u8 ((fT v s).take i9 ++ abD (64 - i9) 0)) 27 (0,0))∧Bk w wr (w.heap.size+1+1+1) h s v) (fun i _=>64 - (intOf i).toNat)
    case atStart=>exact ⟨0,abG _,rfl,HX.out,gy.out⟩
    clear HX gy
    case round =>
    obtain ⟨i9,hi9,rfl,hb,hB⟩:=hrel
    have hbl:(fT v s).length=64:=by simp [fT]
    by_cases CG:i9 < 64
    ·have y0:=aJ hB.bv (i9 / 4) (by rw [vU.out];omega)
     have y1:=aJ hB.bs (i9 / 4) (by rw [HSL.out];omega)
     have y2:=aC hb i9
     have y3:=aJ hb i9 (by simp [hbl];omega)
     have G1:Hid (∀ k u,u=add (v.getD (i9 / 4) 0) (s.getD (i9 / 4) 0) / 2 ^ (8 * (i9 % 4)) % 256→((wr.drewN k).setCell ⟨q,i9,none⟩ (.int .u8 u)).heap[q]? = some (.cells (arr .u8 ((fT v s).take (i9+1) ++ abD (64 - (i9+1)) 0)) 27 (0,0))):=abC (by
      rintro k u rfl
      have hb:(wr.drewN k).heap[q]? = some (.cells (arr .u8 ((fT v s).take i9 ++ abD (64 - i9) 0)) 27 (0,0)):=hb
      rw [bJ hb,out_set v s i9 CG])
     have CV:=abC (fun k u=>(hB.drewN k).out q i9 u nC.out)
     have e1:(8 * ((i9:Int) % 4)).toNat=8 * (i9 % 4):=by omega
     have e2:0≤8 * ((i9:Int) % 4):=by omega
     have e3:8 * ((i9:Int) % 4)≤24:=by omega
     clear hb hB hbl
     generalize v.getD (i9 / 4) 0=x at y0 G1
     generalize s.getD (i9 / 4) 0=y at y1 G1
     go_wp2_with fail
     go_quiet (fail)
     have y4:(wr.drewN nq).frozen? ⟨q,i9,none⟩=false:=y2
     have y5:=(show (wr.drewN nq).cell? ⟨q,i9,none⟩=wr.cell? ⟨q,i9,none⟩ from rfl).trans y3
     go_wp2_with fail
     clear e1 e2 e3 y0 y1 y2 y3 y4 y5
     go_roundw
     case rel=>exact ⟨i9+1,by omega,by go_num,G1.out _ _ (uw _),CV.out _ _⟩
     case measure=>simp [intOf];omega
    ·have e9:i9=64:=by omega
     rw [e9,Nat.sub_self,List.replicate_zero,abO,abF (by omega)] at hb
     obtain ⟨bb,hbb⟩:∃ bb,bb=fT v s:=⟨_,rfl⟩
     rw [← hbb] at hb hbl
     have z1:(Tryz.prog.info? 27).map (·.size)=some bb.length:=by rw [hbl];exact VY
     have z2:(Tryz.prog.info? 27).map (·.size)=some (arr .u8 bb).size:=by rw [aD];exact z1
     have z3:(arr .u8 bb).size=(arr .u8 (abD 64 0)).size:=by rw [aD,aD,hbl,abN]
     have z4:((arr .u8 bb).toList.drop 0).take bb.length=bb.map (Value.int .u8):=by rw [bN,abI,abF (by simp)]
     have HB:=abC hb
     have oK:=abC hbb
     have Ck:=abC hB
     have ZZ1:=abC z1
     have ZZ2:=abC z2
     have ZZ3:=abC z3
     have ZZ4:=abC z4
     clear hb hB z1 z2 z3 z4 e9 hbb hbl
     go_wp2_with (first|((with_reducible refine aS 81 ?_);refine aB rfl 27 _ rfl q 0 _ 27 (0,0) _ HB.out rfl .u8 bb ZZ4.out Tryz.underlying27 rfl ZZ1.out ?_)|((with_reducible show wpList _ _ _ (Oper.mk none _ _ _ _ _ :: _) _ _);refine au rfl 27 _ _ rfl (w.heap.size+1+1) _ _ 27 Ck.out.br rfl rfl ZZ3.out ZZ2.out (ak _ _) ?_;intro w7 jh qP Cy;have fC:=abC jh;have HK7:=abC qP;clear jh qP Cy))
     (try simp only [Exit.inBlock,Exit.then])
     refine bodyPost_ret (results_cell_row rfl _ _ (w.heap.size+1+1) 27 _ (0,0) _ rfl fC.out Tryz.underlying27 rfl ZZ2.out) rfl ?_
     rw [oK.out,HF2.out]
     exact ⟨rfl,Ck.out.below.trans (HK7.out.toBelow Ck.out.below.size (by rintro i rfl;omega))⟩
end Go.Proofs.YthdgbgleklkaiaaGreatDoor.Ch
namespace Go.Proofs.YthdgbgleklkaiaaGreatDoor.Ch
open Go.RowKit
structure Tk (w wr:World) (key aM:List Int) (g ob:Nat) (sp:List Value) (out st:List Int):Prop where
 bk:wr.heap[w.heap.size]? = some (.cells (arr .u8 key) 25 (0,0))
 bn:wr.heap[w.heap.size+1]? = some (.cells (arr .u8 aM) 135 (0,0))
 bo:wr.heap[g]? = some (.cells (jV out sp) 5 (0,0))
 bs:wr.heap[ob]? = some (.cells (arr .u8 st) 27 (0,0))
 below:Below w.heap.size w wr
 lg:w.heap.size+1 < g
 lo:w.heap.size+1 < ob
 ne:g≠ob
theorem Tk.after {w wr w':World} {key aM:List Int} {g ob:Nat} {sp:List Value} {out st:List Int} (h:Tk w wr key aM g ob sp out st) (b:Below wr.heap.size wr w'):Tk w w' key aM g ob sp out st :=
 ⟨Below.blk b h.bk (aV h.bk),Below.blk b h.bn (aV h.bn),Below.blk b h.bo (aV h.bo),Below.blk b h.bs (aV h.bs),h.below.trans (b.mono h.below.size),h.lg,h.lo,h.ne⟩
theorem Tk.drewN {w wr:World} {key aM:List Int} {g ob:Nat} {sp:List Value} {out st:List Int} (h:Tk w wr key aM g ob sp out st) (n:Nat):Tk w (wr.drewN n) key aM g ob sp out st:=⟨h.bk,h.bn,h.bo,h.bs,Go.Proofs.YthdgbgleklkaiaaGreatDoor.Below.drewN h.below n,h.lg,h.lo,h.ne⟩
theorem Tk.drew {w wr:World} {key aM:List Int} {g ob:Nat} {sp:List Value} {out st:List Int} (h:Tk w wr key aM g ob sp out st):Tk w wr.drew key aM g ob sp out st:=⟨h.bk,h.bn,h.bo,h.bs,⟨h.below.os,h.below.tape,h.below.output,h.below.size,h.below.block⟩,h.lg,h.lo,h.ne⟩
theorem Tk.fresh {w wr w':World} {key aM:List Int} {g ob:Nat} {sp:List Value} {out st st':List Int} (h:Tk w wr key aM g ob sp out st) (k:Kept (fun i=>i=ob) wr w') (hb:w'.heap[ob]? = some (.cells (arr .u8 st') 27 (0,0))):Tk w w' key aM g ob sp out st':=by
 have l1:=h.lo
 have l2:=h.ne
 exact ⟨k.blk h.bk (by omega),k.blk h.bn (by omega),k.blk h.bo (by omega),hb,h.below.trans (k.toBelow h.below.size (by rintro i rfl;omega)),h.lg,l1,l2⟩
theorem Tk.set {w wr:World} {key aM:List Int} {g ob:Nat} {sp:List Value} {out st:List Int} (h:Tk w wr key aM g ob sp out st) (i:Nat) (x:Int) (hi:i < out.length):Tk w (wr.setCell ⟨g,i,none⟩ (.int .u8 x)) key aM g ob sp (out.set i x) st:=by
 have l1:=h.lg
 have l2:=h.ne
 refine ⟨ay h.bk _ (by omega),ay h.bn _ (by omega),?_,ay h.bs _ (by omega),h.below.setCell (p:=⟨g,i,none⟩) (by simp;omega) _,l1,h.lo,l2⟩
 rw [aQ h.bo,Wo _ _ _ hi]
def Begun (key:List Int) (c:Int) (aM st:List Int) (i:Nat):Prop:=st.length=64∧(i % 64≠0→st=block key ((c+(i / 64:Nat)) % 4294967296) aM)
theorem turn_at (key:List Int) (c:Int) (aM b:List Int) (i:Nat) (h:i < b.length):(turn key c aM b).getD i 0=bits .xor .u8 (b.getD i 0) ((block key ((c+(i / 64:Nat)) % 4294967296) aM).getD (i % 64) 0):=by
 simp [turn,List.getD,h]
theorem Qi (T r:List Int) (i n:Nat) (x:Int) (hT:T.length=n) (hr:r.length=n) (h:i < n) (hx:x=T.getD i 0):(T.take i ++ r.drop i).set i x=T.take (i+1) ++ r.drop (i+1):=by
 rw [List.set_append_right _ _ (by simp;omega),show i - (T.take i).length=0 by simp;omega,List.drop_eq_getElem_cons (by omega),List.set_cons_zero,gD T i 0 (by omega),hx]
 simp
theorem mix_len (T r:List Int) (i n:Nat) (hT:T.length=n) (hr:r.length=n) (h:i≤n):(T.take i ++ r.drop i).length=n:=by simp;omega
theorem mix_get (T r:List Int) (i n:Nat) (hT:T.length=n) (hr:r.length=n) (h:i < n):(T.take i ++ r.drop i).getD i 0=r.getD i 0:=by
 simp only [List.getD]
 rw [List.getElem?_append_right (by simp;omega),List.getElem?_drop]
 congr 2
 simp
 omega
end Go.Proofs.YthdgbgleklkaiaaGreatDoor.Ch
namespace Go.Proofs.YthdgbgleklkaiaaGreatDoor.Ch
open Go.RowKit
theorem aU.row {w:World} {B:Nat} {va:Option Addr} {n vc:Nat} {xs:List Int} (h:aU w B (.slice va n vc) xs) (hp:0 < xs.length) :
  ∃ g sp,va=some ⟨g,0,none⟩∧B≤g∧w.heap[g]? = some (.cells (jV xs sp) 5 (0,0))∧n=xs.length∧vc=xs.length+sp.length∧vc≤maxLen:=by
 have hv:Value.slice va n vc ≠ .slice none 0 0:=by
  intro e
  obtain ⟨sa,c,hf, -⟩:=h.form
  rw [e] at hf
  injection hf with _ h2 _
  omega
 obtain ⟨g,cap,sp,e,hB,hg,hc,hm⟩:=kg.KY h hv
 cases e
 exact ⟨g,sp,rfl,hB,hg,rfl,hc,hm⟩
theorem Sb (sa:Option Addr) (n cap:Nat) (xs key aM:List Int) (c:Int) (w:World) (hs:Src w sa n xs) (hk:key.length=32) (hn:aM.length=12) (bk:bytes key) (bn:bytes aM) (hln:n≤1099511627776) (hpos:0 < n) :
  Calls Tryz.prog 136 #[.agg (arr .u8 key), .int .i64 c, .agg (arr .u8 aM), .slice sa n cap] w fun e w'=>∃ v,e = .returned v∧aU w' w.heap.size v (turn key c aM xs)∧Below w.heap.size w w':=by
 have z64:=zero64
 have hand:=NK c
 have e1:∀ o,(w.alloc o).heap.size=w.heap.size+1:=by simp
 have e2:∀ o p,((w.alloc o).alloc p).heap.size=w.heap.size+1+1:=by simp
 obtain ⟨wA,hwA⟩:∃ wA,wA=(w.alloc (.cells (arr .u8 key) 25)).alloc (.cells (arr .u8 aM) 135):=⟨_,rfl⟩
 have a1:wA.heap[w.heap.size]? = some (.cells (arr .u8 key) 25 (0,0)):=by rw [hwA];exact aY (aH w _) _
 have a2:wA.heap[w.heap.size+1]? = some (.cells (arr .u8 aM) 135 (0,0)):=by rw [hwA,← e1 (.cells (arr .u8 key) 25)];exact aH _ _
 have a3:Below w.heap.size w wA:=by rw [hwA];exact ((Below.refl _ w).alloc (abH _) _).alloc (by rw [e1];omega) _
 have a4:wA.heap.size=w.heap.size+1+1:=by rw [hwA,e2]
 obtain ⟨T,hT⟩:∃ T,T=turn key c aM xs:=⟨_,rfl⟩
 have hTl:T.length=n:=by rw [hT,yZ];exact hs.len
 have hTa:∀ i,i < n→T.getD i 0=bits .xor .u8 (xs.getD i 0) ((block key ((c+(i / 64:Nat)) % 4294967296) aM).getD (i % 64) 0):=fun i hi=>by rw [hT];exact turn_at _ _ _ _ _ (by rw [hs.len];exact hi)
 have p1:((arr .u8 key).toList.drop 0).take key.length=key.map (Value.int .u8):=by rw [abI,bN,abF (by simp)]
 have p2:((arr .u8 aM).toList.drop 0).take aM.length=aM.map (Value.int .u8):=by rw [abI,bN,abF (by simp)]
 have z1:(Tryz.prog.info? 25).map (·.size)=some key.length:=by rw [hk];exact qZ
 have z2:(Tryz.prog.info? 135).map (·.size)=some aM.length:=by rw [hn];exact uR
 have hsA:=hs.below (a3.mono (abH _))
 have jc:=abC hs.len
 have A1:=abC a1
 have A2:=abC a2
 have A3:=abC a3
 have A4:=abC a4
 have HWA:=abC hwA
 have HTA:=abC hTa
 have HT:=abC hT
 have uD:=abC hTl
 have HS:=abC hsA
 have HK:=abC hk
 have HN:=abC hn
 have BK:=abC bk
 have BN:=abC bn
 have P1:=abC p1
 have P2:=abC p2
 have Z1:=abC z1
 have Z2:=abC z2
 have c1:0≤c % 4294967296:=by omega
 have c2:c % 4294967296≤4294967295:=by omega
 have c3:∀ j:Nat,(c % 4294967296+(j:Int) / 64) % 4294967296=(c+(j / 64:Nat)) % 4294967296:=by intro j;omega
 have C3:=abC c3
 clear hwA hT hTl hs hk hn bk bn p1 p2 z1 z2 hTa hsA a1 a2 a3 a4 e1 e2 c3
 generalize hcc:c % 4294967296=cc at hand c1 c2 C3
 clear hcc
 go_enter Tryz.func136, Tryz.ntmps136
 go_wp2_with (first|((with_reducible refine aS 14 ?_);rw [← HWA.out];refine aX rfl (.const (.slice none 0 0)) (.tmp 13) rfl (w.heap.size+1+1) (.slice none 0 0) [] rfl (aU.nil _ _) sa n cap xs rfl HS.out (by simp;omega) (by rw [A4.out];omega) ?_;intro v1 w1 ho1 hg1 hn1 hb1;have hbel:=aZ (w0:=wA) (aU.nil wA (w.heap.size+1+1)) hg1 (Below.refl _ _) (by rw [A4.out];omega);obtain ⟨va,vc,hv, -⟩:=ho1.form;rw [abQ,jc.out] at hv;rw [abQ] at ho1;subst hv;obtain ⟨g,sp,rfl,hBg,tX, -, hvc,hvm⟩:=aU.row ho1 (by rw [jc.out];exact hpos);have mG:=abC hbel;have Kk:=abC tX;have HBG:=abC hBg;have HVC:=abC (And.intro hvc hvm);clear ho1 hg1 hn1 hb1 hbel hBg tX hvc hvm)|((with_reducible refine aS 11 ?_);refine ah rfl 27 rfl _ (zero64 _) ?_))
 have HB0:Hid (Tk w (w1.alloc (.cells (arr .u8 (abD 64 0)) 27)) key aM g w1.heap.size sp xs (abD 64 0)):=abC (by
  have hl:=aV Kk.out
  have hg:=HBG.out
  refine ⟨aY (Below.blk mG.out A1.out (by omega)) _,aY (Below.blk mG.out A2.out (by omega)) _,aY Kk.out _,aH _ _,?_,by omega,by omega,by omega⟩
  have:=A3.out.trans (mG.out.mono (by omega))
  exact this.alloc this.size _)
 clear mG Kk A1 A2 A3 A4 HWA HS
 generalize w1.heap.size=ob at HB0 ⊢
 clear hand
 go_loopw [12] (fun i wr=>∃ (j:Nat) (st:List Int),j≤n∧i = .int .i64 j∧Begun key c aM st j∧Tk w wr key aM g ob sp (T.take j ++ xs.drop j) st) (fun i _=>n - (intOf i).toNat)
 case atStart=>exact ⟨0,abD 64 0,abG _,rfl,⟨by simp,fun h=>absurd rfl h⟩,by simpa using HB0.out⟩
 clear HB0
 case round =>
 obtain ⟨j,st,hj,rfl,hbg,hB⟩:=hrel
 by_cases hlt:j < n
 ·have HB:=abC hB
  have HBGN:=abC hbg
  have HX:=abC (HTA.out j hlt)
  have HL:=abC (mix_len T xs j n uD.out jc.out (by omega))
  clear hB hbg
  have HG:=abC (mix_get T xs j n uD.out jc.out hlt)
  generalize xs.getD j 0=x at HX HG
  by_cases h64:j % 64=0
  ·have h64':(j:Int) % 64=0:=by omega
   go_wp2_with (first|((with_reducible refine aS 26 ?_);refine aB rfl 25 _ rfl w.heap.size 0 _ 25 (0,0) _ HB.out.bk rfl .u8 key P1.out Tryz.underlying25 rfl Z1.out ?_)|((with_reducible refine aS 31 ?_);refine aB rfl 135 _ rfl (w.heap.size+1) 0 _ 135 (0,0) _ HB.out.bn rfl .u8 aM P2.out Tryz.underlying135 rfl Z2.out ?_)|(go_at_call 180; refine (nN key aM (cc+(j:Int) / 64) wr HK.out HN.out BK.out BN.out).mono ?_;rintro e w1 ⟨rfl,hb1⟩;have HB1:=abC (HB.out.after hb1);clear hb1)|((with_reducible show wpList _ _ _ (Oper.mk none (.store _ (.tmp 11) _) _ _ _ _ :: _) _ _);refine au rfl 27 _ _ rfl ob _ _ 27 HB1.out.bs rfl rfl (by rw [aD,aD,qE,HBGN.out.1]) (by rw [aD,qE];exact VY) (ak _ _) ?_;intro w2 hb2 hk2 hz2;have Tw:=HB1.out.fresh hk2 hb2;obtain ⟨sb,hsb⟩:∃ sb,sb=block key ((cc+(j:Int) / 64) % 4294967296) aM:=⟨_,rfl⟩;rw [← hsb] at Tw;have hsl:sb.length=64:=by { rw [hsb];exact qE _ _ _ };have hse:sb=block key ((c+(j / 64:Nat)) % 4294967296) aM:=by { rw [hsb,C3.out] };have HSL:=abC hsl;have Gp:=abC hse;have HT2:=abC Tw;have q1:=aJ Tw.bs (j % 64) (by rw [hsl];omega);have q2:=aC Tw.bo j;have q3:=(aF Tw.bo j).trans (sV _ _ j (by rw [HL.out];exact hlt));rw [HG.out] at q3;have HQ:=abC (HX.out);rw [← hse,h64] at HQ;rw [h64] at q1;clear hb2 hk2 hz2 Tw hsb hsl hse;generalize sb.getD 0 0=y at q1 HQ))
   simp only [Act.put]
   go_region
   have HT3:=abC (HT2.out.set j (bits .xor .u8 x y) (by rw [HL.out];exact hlt)).drew
   rw [Qi T xs j n _ uD.out jc.out hlt HQ.out.symm] at HT3
   clear q1 q2 q3 HB HB1 HT2
   go_wp2_with fail
   go_roundw
   case rel =>
    refine ⟨j+1,sb,by omega,by go_num,⟨HSL.out,fun _=>?_⟩,HT3.out⟩
    rw [Gp.out,show (j+1) / 64=j / 64 by omega]
   case measure=>simp [intOf];omega
  ·have h64':(j:Int) % 64≠0:=by omega
   have hse:=HBGN.out.2 h64
   have HQ:=abC (HX.out)
   rw [← hse] at HQ
   have q1:=aJ HB.out.bs (j % 64) (by rw [HBGN.out.1];omega)
   have q2:=aC HB.out.bo j
   have q3:=(aF HB.out.bo j).trans (sV _ _ j (by rw [HL.out];exact hlt))
   rw [HG.out] at q3
   have Gp:=abC hse
   clear hse
   generalize hy:st.getD (j % 64) 0=y at q1 HQ
   clear hy
   go_wp2_with fail
   go_region
   have HT3:=abC (HB.out.set j (bits .xor .u8 x y) (by rw [HL.out];exact hlt)).drew
   rw [Qi T xs j n _ uD.out jc.out hlt HQ.out.symm] at HT3
   clear q1 q2 q3 HB
   go_wp2_with fail
   go_roundw
   case rel =>
    refine ⟨j+1,st,by omega,by go_num,⟨HBGN.out.1,fun h=>?_⟩,HT3.out⟩
    rw [Gp.out,show (j+1) / 64=j / 64 by omega]
   case measure=>simp [intOf];omega
 ·have e9:j=n:=by omega
  rw [e9,abF (by rw [uD.out];omega),List.drop_eq_nil_of_le (by rw [jc.out];omega),abO] at hB
  have HB:=abC hB
  clear hB e9
  go_wp2_with fail
  go_ret
  rw [← HT.out]
  refine ⟨.slice (some ⟨g,0,none⟩) n vc,rfl,aU.Qc ?_,HB.out.below⟩
  have hv:=HVC.out
  have hg:=HB.out.lg
  exact ⟨g,vc,sp,by rw [uD.out],by omega,HB.out.bo,by rw [uD.out,hv.1,jc.out],hv.2⟩
theorem Sd (sa:Option Addr) (cap:Nat) (key aM:List Int) (c:Int) (w:World) :
  Calls Tryz.prog 136 #[.agg (arr .u8 key), .int .i64 c, .agg (arr .u8 aM), .slice sa 0 cap] w fun e w'=>∃ v,e = .returned v∧aU w' w.heap.size v []∧Below w.heap.size w w':=by
 have z64:=zero64
 have hand:=NK c
 have c1:0≤c % 4294967296:=by omega
 have c2:c % 4294967296≤4294967295:=by omega
 generalize hcc:c % 4294967296=cc at hand c1 c2
 clear hcc
 have e1:∀ o,(w.alloc o).heap.size=w.heap.size+1:=by simp
 have e2:∀ o p,((w.alloc o).alloc p).heap.size=w.heap.size+1+1:=by simp
 have a3:Below w.heap.size w ((w.alloc (.cells (arr .u8 key) 25)).alloc (.cells (arr .u8 aM) 135)):=((Below.refl _ w).alloc (abH _) _).alloc (by rw [e1];omega) _
 have hs:Src ((w.alloc (.cells (arr .u8 key) 25)).alloc (.cells (arr .u8 aM) 135)) sa 0 []:=⟨rfl,fun i hi=>absurd hi (by omega)⟩
 have HS:=abC hs
 have A3:=abC a3
 have E2:=abC e2
 clear hs a3 e1 e2
 go_enter Tryz.func136, Tryz.ntmps136
 go_wp2_with (first|((with_reducible refine aS 14 ?_);refine aX rfl (.const (.slice none 0 0)) (.tmp 13) rfl (w.heap.size+1+1) (.slice none 0 0) [] rfl (aU.nil _ _) sa 0 cap [] rfl HS.out (by simp) (by rw [E2.out];omega) ?_;intro v1 w1 ho1 hg1 hn1 hb1;have hv:=hn1.2 ⟨rfl,rfl⟩;subst hv;have hbel:=A3.out.trans ((aZ (aU.nil _ (w.heap.size+1+1)) hg1 (Below.refl _ _) (by rw [E2.out];omega)).mono (by omega));have mG:=abC hbel;clear ho1 hg1 hn1 hb1 hbel)|((with_reducible refine aS 11 ?_);refine ah rfl 27 rfl _ (zero64 _) ?_))
 have HB0:=abC (mG.out.alloc mG.out.size (.cells (arr .u8 (abD 64 0)) 27))
 clear hand mG HS A3 E2
 go_loopw [12] (fun i wr=>i = .int .i64 0∧Below w.heap.size w wr) (fun i _=>0)
 case atStart=>exact ⟨rfl,HB0.out⟩
 clear HB0
 case round =>
 obtain ⟨rfl,hB⟩:=hrel
 go_wp2_with fail
 go_ret
 exact ⟨.slice none 0 0,rfl,aU.nil _ _,hB⟩
theorem Sg (sa:Option Addr) (n cap:Nat) (xs key aM:List Int) (c:Int) (w:World) (hs:Src w sa n xs) (hk:key.length=32) (hn:aM.length=12) (bk:bytes key) (bn:bytes aM) (hln:n≤1099511627776) :
  Calls Tryz.prog 136 #[.agg (arr .u8 key), .int .i64 c, .agg (arr .u8 aM), .slice sa n cap] w fun e w'=>∃ v,e = .returned v∧aU w' w.heap.size v (turn key c aM xs)∧Below w.heap.size w w':=by
 rcases Nat.eq_zero_or_pos n with h0|h0
 ·have hx:xs=[]:=List.eq_nil_of_length_eq_zero (hs.len.trans h0)
  subst hx h0
  have e:turn key c aM []=[]:=by simp [turn]
  rw [e]
  exact Sd sa cap key aM c w
 ·exact Sb sa n cap xs key aM c w hs hk hn bk bn hln h0
end Go.Proofs.YthdgbgleklkaiaaGreatDoor.Ch
