/- sha.turn. Condition: as each theorem says. -/

import Derived.Test.YthdgbgleklkaiaaGreatDoorQc09
open Go.Lib renaming hid→abC
open List renaming replicate→abD,length_replicate→abF
set_option linter.unusedSimpArgs false
set_option linter.unusedVariables false
set_option maxRecDepth 100000
set_option maxHeartbeats 16000000
namespace Go.Proofs.YthdgbgleklkaiaaGreatDoor.Ha
open Go.RowKit
theorem CX (w:World):(zeroValue 91).run Tryz.prog w = .ok (.agg (arr .u32 (abD 8 0))) w:=by kernel_rfl
theorem pE {a0 a1 a2 a3 a4 a5 a6 a7 b0 b1 b2 b3 b4 b5 b6 b7:Int} (h0:a0=b0) (h1:a1=b1) (h2:a2=b2) (h3:a3=b3) (h4:a4=b4) (h5:a5=b5) (h6:a6=b6) (h7:a7=b7) :
  [a0,a1,a2,a3,a4,a5,a6,a7]=[b0,b1,b2,b3,b4,b5,b6,b7]:=by
 subst h0 h1 h2 h3 h4 h5 h6 h7
 rfl
theorem JA (a b:Int):(a+b) % 4294967296=add a b:=by simp only [add,IntKind.wrap_u32]
theorem Zx (a b c d e f:Int):(a+(b+c+d+e+f)) % 4294967296=add a (add (add (add (add b c) d) e) f):=by
 simp only [add,IntKind.wrap_u32]
 omega
theorem Zw (a b c d e x y:Int):(a+b+c+d+e+(x+y)) % 4294967296=add (add (add (add (add a b) c) d) e) (add x y):=by
 simp only [add,IntKind.wrap_u32]
 omega
theorem iT {P:Program} {ops:Array Oper} {rest:List Oper} {o:Oper} {a:Act} {w:World} {Q:Exit→Act→World→Prop} (hgd:o.guard=none) (ty:TypeId) (x y:Operand) (ho:o.op = .store ty x y)
  (g:Nat) (k:IntKind) (ys:List Int) (t:TypeId) (hb:w.heap[g]? = some (.cells (arr k ys) t (0,0))) (hx:a.eval x = .pointer (some ⟨g,0,none⟩)) (a0 a1 a2 a3 a4 a5 a6 a7:Int)
  (hy:a.eval y = .agg #[Value.int k a0, .int k a1, .int k a2, .int k a3, .int k a4, .int k a5, .int k a6, .int k a7]) (hl:ys.length=8) (hi:(P.info? ty).map (·.size)=some 8)
  (h:∀ w',w'.heap[g]? = some (.cells (arr k [a0,a1,a2,a3,a4,a5,a6,a7]) t (0,0))→Kept (fun i=>i=g) w w'→w'.heap.size=w.heap.size→wpList P ops Q rest (a.put o.dst undef) w') :
  wpList P ops Q (o :: rest) a w:=by
 refine au hgd ty x y ho g (arr k ys) (arr k [a0,a1,a2,a3,a4,a5,a6,a7]) t hb hx hy ?_ ?_ (ak _ _) h
 ·rw [aD,aD,hl];rfl
 ·rw [aD];exact hi
structure TurnJ (w w':World) (p g2 g3:Nat) (h b ws:List Int) (n l:Int) (t:Nat):Prop where
 le:t≤64
 b2:w'.heap[g2]? = some (.cells (arr .u32 ws) 93 (0,0))
 b3:w'.heap[g3]? = some (.cells (arr .u32 (rounds ws h t)) 91 (0,0))
 st:bE w' p h b n l
 below:Below w.heap.size w w'
 d2:w.heap.size≤g2
 d3:g2 < g3
def TJ (w:World) (p:Nat) (h b ws:List Int) (n l:Int) (a':Act) (w':World):Prop :=
 a'.defers=[]∧a'.tmps.size=122∧∃ (g2 g3 t:Nat),a'.tmps.getD 0 undef = .pointer (some ⟨p,0,none⟩)∧a'.tmps.getD 2 undef = .pointer (some ⟨g2,0,none⟩)∧a'.tmps.getD 3 undef = .pointer (some ⟨g3,0,none⟩)∧a'.tmps.getD 4 undef = .int .i64 (t:Int)∧TurnJ w w' p g2 g3 h b ws n l t
theorem Lh (n:Nat) (l:List Value) (h:l.length=n):l=(List.range n).map fun i=>l.getD i undef:=by
 apply List.ext_getElem
 ·simp [h]
 ·intro i h1 h2
  simp [List.getD,h1]
theorem Jw {motive:Act→Prop} (h:∀ u0 u1 u2 u3 u4 u5 u6 u7 u8 u9 u10 u11 u12 u13 u14 u15 u16 u17 u18 u19 u20 u21 u22 u23 u24 u25 u26 u27 u28 u29 u30 u31 u32 u33 u34 u35 u36 u37 u38 u39 u40 u41 u42 u43 u44 u45 u46 u47 u48 u49 u50 u51 u52 u53 u54 u55 u56 u57 u58 u59 u60 u61 u62 u63 u64 u65 u66 u67 u68 u69 u70 u71 u72 u73 u74 u75 u76 u77 u78 u79 u80 u81 u82 u83 u84 u85 u86 u87 u88 u89 u90 u91 u92 u93 u94 u95 u96 u97 u98 u99 u100 u101 u102 u103 u104 u105 u106 u107 u108 u109 u110 u111 u112 u113 u114 u115 u116 u117 u118 u119 u120 u121:Value,motive { tmps := #[u0,u1,u2,u3,u4,u5,u6,u7,u8,u9,u10,u11,u12,u13,u14,u15,u16,u17,u18,u19,u20,u21,u22,u23,u24,u25,u26,u27,u28,u29,u30,u31,u32,u33,u34,u35,u36,u37,u38,u39,u40,u41,u42,u43,u44,u45,u46,u47,u48,u49,u50,u51,u52,u53,u54,u55,u56,u57,u58,u59,u60,u61,u62,u63,u64,u65,u66,u67,u68,u69,u70,u71,u72,u73,u74,u75,u76,u77,u78,u79,u80,u81,u82,u83,u84,u85,u86,u87,u88,u89,u90,u91,u92,u93,u94,u95,u96,u97,u98,u99,u100,u101,u102,u103,u104,u105,u106,u107,u108,u109,u110,u111,u112,u113,u114,u115,u116,u117,u118,u119,u120,u121],defers:=[] }) (a:Act) (hd:a.defers=[]) (hs:a.tmps.size=122):motive a:=by
 obtain ⟨⟨l⟩,d⟩:=a
 simp only at hd
 subst hd
 have e:=Lh 122 l hs
 have e2:((List.range 122).map fun i=>l.getD i undef)=[l.getD 0 undef,l.getD 1 undef,l.getD 2 undef,l.getD 3 undef,l.getD 4 undef,l.getD 5 undef,l.getD 6 undef,l.getD 7 undef,l.getD 8 undef,l.getD 9 undef,l.getD 10 undef,l.getD 11 undef,l.getD 12 undef,l.getD 13 undef,l.getD 14 undef,l.getD 15 undef,l.getD 16 undef,l.getD 17 undef,l.getD 18 undef,l.getD 19 undef,l.getD 20 undef,l.getD 21 undef,l.getD 22 undef,l.getD 23 undef,l.getD 24 undef,l.getD 25 undef,l.getD 26 undef,l.getD 27 undef,l.getD 28 undef,l.getD 29 undef,l.getD 30 undef,l.getD 31 undef,l.getD 32 undef,l.getD 33 undef,l.getD 34 undef,l.getD 35 undef,l.getD 36 undef,l.getD 37 undef,l.getD 38 undef,l.getD 39 undef,l.getD 40 undef,l.getD 41 undef,l.getD 42 undef,l.getD 43 undef,l.getD 44 undef,l.getD 45 undef,l.getD 46 undef,l.getD 47 undef,l.getD 48 undef,l.getD 49 undef,l.getD 50 undef,l.getD 51 undef,l.getD 52 undef,l.getD 53 undef,l.getD 54 undef,l.getD 55 undef,l.getD 56 undef,l.getD 57 undef,l.getD 58 undef,l.getD 59 undef,l.getD 60 undef,l.getD 61 undef,l.getD 62 undef,l.getD 63 undef,l.getD 64 undef,l.getD 65 undef,l.getD 66 undef,l.getD 67 undef,l.getD 68 undef,l.getD 69 undef,l.getD 70 undef,l.getD 71 undef,l.getD 72 undef,l.getD 73 undef,l.getD 74 undef,l.getD 75 undef,l.getD 76 undef,l.getD 77 undef,l.getD 78 undef,l.getD 79 undef,l.getD 80 undef,l.getD 81 undef,l.getD 82 undef,l.getD 83 undef,l.getD 84 undef,l.getD 85 undef,l.getD 86 undef,l.getD 87 undef,l.getD 88 undef,l.getD 89 undef,l.getD 90 undef,l.getD 91 undef,l.getD 92 undef,l.getD 93 undef,l.getD 94 undef,l.getD 95 undef,l.getD 96 undef,l.getD 97 undef,l.getD 98 undef,l.getD 99 undef,l.getD 100 undef,l.getD 101 undef,l.getD 102 undef,l.getD 103 undef,l.getD 104 undef,l.getD 105 undef,l.getD 106 undef,l.getD 107 undef,l.getD 108 undef,l.getD 109 undef,l.getD 110 undef,l.getD 111 undef,l.getD 112 undef,l.getD 113 undef,l.getD 114 undef,l.getD 115 undef,l.getD 116 undef,l.getD 117 undef,l.getD 118 undef,l.getD 119 undef,l.getD 120 undef,l.getD 121 undef]:=rfl
 rw [e2] at e
 have:=h (l.getD 0 undef) (l.getD 1 undef) (l.getD 2 undef) (l.getD 3 undef) (l.getD 4 undef) (l.getD 5 undef) (l.getD 6 undef) (l.getD 7 undef) (l.getD 8 undef) (l.getD 9 undef) (l.getD 10 undef) (l.getD 11 undef) (l.getD 12 undef) (l.getD 13 undef) (l.getD 14 undef) (l.getD 15 undef) (l.getD 16 undef) (l.getD 17 undef) (l.getD 18 undef) (l.getD 19 undef) (l.getD 20 undef) (l.getD 21 undef) (l.getD 22 undef) (l.getD 23 undef) (l.getD 24 undef) (l.getD 25 undef) (l.getD 26 undef) (l.getD 27 undef) (l.getD 28 undef) (l.getD 29 undef) (l.getD 30 undef) (l.getD 31 undef) (l.getD 32 undef) (l.getD 33 undef) (l.getD 34 undef) (l.getD 35 undef) (l.getD 36 undef) (l.getD 37 undef) (l.getD 38 undef) (l.getD 39 undef) (l.getD 40 undef) (l.getD 41 undef) (l.getD 42 undef) (l.getD 43 undef) (l.getD 44 undef) (l.getD 45 undef) (l.getD 46 undef) (l.getD 47 undef) (l.getD 48 undef) (l.getD 49 undef) (l.getD 50 undef) (l.getD 51 undef) (l.getD 52 undef) (l.getD 53 undef) (l.getD 54 undef) (l.getD 55 undef) (l.getD 56 undef) (l.getD 57 undef) (l.getD 58 undef) (l.getD 59 undef) (l.getD 60 undef) (l.getD 61 undef) (l.getD 62 undef) (l.getD 63 undef) (l.getD 64 undef) (l.getD 65 undef) (l.getD 66 undef) (l.getD 67 undef) (l.getD 68 undef) (l.getD 69 undef) (l.getD 70 undef) (l.getD 71 undef) (l.getD 72 undef) (l.getD 73 undef) (l.getD 74 undef) (l.getD 75 undef) (l.getD 76 undef) (l.getD 77 undef) (l.getD 78 undef) (l.getD 79 undef) (l.getD 80 undef) (l.getD 81 undef) (l.getD 82 undef) (l.getD 83 undef) (l.getD 84 undef) (l.getD 85 undef) (l.getD 86 undef) (l.getD 87 undef) (l.getD 88 undef) (l.getD 89 undef) (l.getD 90 undef) (l.getD 91 undef) (l.getD 92 undef) (l.getD 93 undef) (l.getD 94 undef) (l.getD 95 undef) (l.getD 96 undef) (l.getD 97 undef) (l.getD 98 undef) (l.getD 99 undef) (l.getD 100 undef) (l.getD 101 undef) (l.getD 102 undef) (l.getD 103 undef) (l.getD 104 undef) (l.getD 105 undef) (l.getD 106 undef) (l.getD 107 undef) (l.getD 108 undef) (l.getD 109 undef) (l.getD 110 undef) (l.getD 111 undef) (l.getD 112 undef) (l.getD 113 undef) (l.getD 114 undef) (l.getD 115 undef) (l.getD 116 undef) (l.getD 117 undef) (l.getD 118 undef) (l.getD 119 undef) (l.getD 120 undef) (l.getD 121 undef)
 rwa [← e] at this
theorem VG (p:Nat) (h b:List Int) (n l:Int) (w:World) (s:bE w p h b n l) (hb:∀ x∈b,0≤x∧x≤255) :
  Calls Tryz.prog 140 #[.pointer (some ⟨p,0,none⟩)] w fun e w'=>e = .returned (.tuple #[])∧bE w' p (comp h b) b n l∧Kept (fun x=>x=p) w w':=by
 have hsc:=R4 p h b n l w s hb
 obtain ⟨ws,ews⟩:∃ ws,ws=sched b 48:=⟨_,rfl⟩
 have hwl:ws.length=64:=by rw [ews];exact gY _ _
 rw [← ews] at hsc
 have hp8:=RS h b n l
 have U0:(Tryz.prog.info? 91).map (·.size)=some h.length:=by rw [s.hl];exact mO
 have z1:(Tryz.prog.info? 93).map (·.size)=some (arr .u32 ws).size:=by rw [aD,hwl];exact PE
 have z2:(arr .u32 ws).size=(arr .u32 (abD 64 0)).size:=by rw [aD,aD,hwl,abF]
 have z3:(Tryz.prog.info? 91).map (·.size)=some (arr .u32 h).size:=by rw [aD,s.hl];exact mO
 have z4:(arr .u32 h).size=(arr .u32 (abD 8 0)).size:=by rw [aD,aD,s.hl,abF]
 have HSC:=abC hsc
 have HP8:=abC hp8
 have HZ8:=abC U0
 have Z1:=abC z1
 have Z2:=abC z2
 have Z3:=abC z3
 have Z4:=abC z4
 have qV:=abC hwl
 have HE:=abC ews
 have HS:=abC s
 clear hsc hp8 U0 z1 z2 z3 z4 hwl ews s
 go_enter Tryz.func140, Tryz.ntmps140
 refine wp_scope_jumps 0 (TJ w p h b ws n l) (fun a' _=>(64 - intOf (a'.tmps.getD 4 undef)).toNat) rfl ?_ ?_
 ·go_wp2_with (first|(go_at_call 185; refine HSC.out.mono ?_;rintro e w1 ⟨rfl,hb1⟩;have hst1:=HS.out.below hb1;have HST1:=abC hst1;have HB1:=abC hb1;clear hst1 hb1)|((with_reducible refine aS 2 ?_);refine ah rfl 93 rfl _ (yR _) ?_;have HA1:=abC (aH w1 (.cells (arr .u32 (abD 64 0)) 93)))|((with_reducible show wpList _ _ _ (Oper.mk none _ _ _ _ _ :: _) _ _);refine au rfl 93 _ _ rfl w1.heap.size _ _ 93 HA1.out rfl rfl Z2.out Z1.out (ak _ _) ?_;intro w2 hb2 hk2 hz2;have XZ:=(HST1.out.alloc _).kept hk2 (by have:=aV HST1.out.blk;omega);have HST2:=abC XZ;have HB2:=abC hb2;have wI:=abC hk2;have HZ2:=abC hz2;clear XZ hb2 hk2 hz2)|((with_reducible refine aS 17 ?_);refine aB rfl 91 _ rfl p 0 _ 147 (0,0) _ HST2.out.blk rfl .u32 h HP8.out Tryz.underlying91 rfl HZ8.out ?_)|((with_reducible refine aS 3 ?_);refine ah rfl 91 rfl _ (CX _) ?_;have HA3:=abC (aH w2 (.cells (arr .u32 (abD 8 0)) 91)))|((with_reducible show wpList _ _ _ (Oper.mk none _ _ _ _ _ :: _) _ _);refine au rfl 91 _ _ rfl w2.heap.size _ _ 91 HA3.out rfl rfl Z4.out Z3.out (ak _ _) ?_;intro w3 hb3 hk3 hz3;have HB3:=abC hb3;have GI:=abC hk3;have HZ3:=abC hz3;clear hb3 hk3 hz3))
  refine (fun (H:∀ (a:Act) (w':World),TJ w p h b ws n l a w'→Code.wp Tryz.prog (Code.label 0) _ a w')=>H _ _ ?hj0) ?hmain
  case hj0 =>
   have e2:w2.heap.size=w1.heap.size+1:=by rw [HZ2.out];simp
   have l1:=HB1.out.size
   have lp:=aV HST2.out.blk
   have lp1:=aV HS.out.blk
   refine ⟨rfl,rfl,w1.heap.size,w2.heap.size,0,rfl,rfl,rfl,rfl,⟨by omega,GI.out.blk (aY HB2.out _) (by omega),HB3.out,(HST2.out.alloc _).kept GI.out (by omega),?_,l1,by omega⟩⟩
   have q1:Below w.heap.size w w2:=(HB1.out.alloc HB1.out.size _).trans (wI.out.toBelow (by simp;omega) (by rintro i rfl;exact l1))
   exact (q1.alloc q1.size _).trans (GI.out.toBelow (by simp;omega) (by rintro i rfl;omega))
  clear HST2 HB2 wI HZ2 HB3 GI HZ3 HA1 HA3 HST1 HB1
  intro a w' hj
  obtain ⟨hfd,hfs,g2,g3,t,h0,h2,h3,h4,hJ⟩:=hj
  obtain ⟨ht,hb2,hb3,hst,hbw,hd2,hd3⟩:=hJ
  refine Jw (motive:=fun a=>a.tmps.getD 0 undef = .pointer (some ⟨p,0,none⟩)→a.tmps.getD 2 undef = .pointer (some ⟨g2,0,none⟩)→a.tmps.getD 3 undef = .pointer (some ⟨g3,0,none⟩)→a.tmps.getD 4 undef = .int .i64 (t:Int)→Code.wp _ _ _ a w') ?_ a hfd hfs h0 h2 h3 h4
  clear h0 h2 h3 h4 hfd hfs
  intro u0 u1 u2 u3 u4 u5 u6 u7 u8 u9 u10 u11 u12 u13 u14 u15 u16 u17 u18 u19 u20 u21 u22 u23 u24 u25 u26 u27 u28 u29 u30 u31 u32 u33 u34 u35 u36 u37 u38 u39 u40 u41 u42 u43 u44 u45 u46 u47 u48 u49 u50 u51 u52 u53 u54 u55 u56 u57 u58 u59 u60 u61 u62 u63 u64 u65 u66 u67 u68 u69 u70 u71 u72 u73 u74 u75 u76 u77 u78 u79 u80 u81 u82 u83 u84 u85 u86 u87 u88 u89 u90 u91 u92 u93 u94 u95 u96 u97 u98 u99 u100 u101 u102 u103 u104 u105 u106 u107 u108 u109 u110 u111 u112 u113 u114 u115 u116 u117 u118 u119 u120 u121 h0 h2 h3 h4
  have k0:u0 = .pointer (some ⟨p,0,none⟩):=h0
  have k2:u2 = .pointer (some ⟨g2,0,none⟩):=h2
  have k3:u3 = .pointer (some ⟨g3,0,none⟩):=h3
  have k4:u4 = .int .i64 (t:Int):=h4
  clear h0 h2 h3 h4
  subst k0 k2 k3 k4
  go_step3
  have hpl:=aV HS.out.blk
  by_cases hlt:t < 64
  ·have hvl:=gP ws h HS.out.hl t
   have x0:=aJ hb3 0 (by omega)
   have x1:=aJ hb3 1 (by omega)
   have x2:=aJ hb3 2 (by omega)
   have x3:=aJ hb3 3 (by omega)
   have x4:=aJ hb3 4 (by omega)
   have x5:=aJ hb3 5 (by omega)
   have x6:=aJ hb3 6 (by omega)
   have x7:=aJ hb3 7 (by omega)
   have xk:=hst.at_k t hlt
   have xw:=aJ hb2 t (by rw [qV.out];omega)
   have HN:Hid (∀ cs,cs=arr .u32 (Sq (K.getD t 0) (ws.getD t 0) (rounds ws h t))→cs=arr .u32 (rounds ws h (t+1))):=abC (by rintro cs rfl;rw [rounds_succ])
   have HV8:=abC hvl
   have HB2:=abC hb2
   have HB3:=abC hb3
   have HST:=abC hst
   have qK:=abC hbw
   clear hb2 hb3 hst hbw hvl
   unfold Sq tx ty at HN
   generalize (rounds ws h t).getD 0 0=v0 at x0 HN
   generalize (rounds ws h t).getD 1 0=v1 at x1 HN
   generalize (rounds ws h t).getD 2 0=v2 at x2 HN
   generalize (rounds ws h t).getD 3 0=v3 at x3 HN
   generalize (rounds ws h t).getD 4 0=v4 at x4 HN
   generalize (rounds ws h t).getD 5 0=v5 at x5 HN
   generalize (rounds ws h t).getD 6 0=v6 at x6 HN
   generalize (rounds ws h t).getD 7 0=v7 at x7 HN
   generalize K.getD t 0=kt at xk HN
   generalize ws.getD t 0=wt at xw HN
   go_wp2_with fail
   go_region
   go_wp2_with (go_at_call 186; first|((with_reducible refine (rl_2 _ _).mono ?_);rintro e w' ⟨rfl,rfl⟩)|((with_reducible refine (rl_6 _ _).mono ?_);rintro e w' ⟨rfl,rfl⟩)|((with_reducible refine (rl_11 _ _).mono ?_);rintro e w' ⟨rfl,rfl⟩)|((with_reducible refine (rl_13 _ _).mono ?_);rintro e w' ⟨rfl,rfl⟩)|((with_reducible refine (rl_22 _ _).mono ?_);rintro e w' ⟨rfl,rfl⟩)|((with_reducible refine (rl_25 _ _).mono ?_);rintro e w' ⟨rfl,rfl⟩))
   go_quiet (fail)
   go_wp2_with ((with_reducible show wpList _ _ _ (Oper.mk none _ _ _ _ _ :: _) _ _);refine iT rfl 91 _ _ rfl g3 .u32 _ 91 HB3.out rfl _ _ _ _ _ _ _ _ rfl HV8.out mO ?_;intro w4 hb4 hk4 hz4;have ou:=abC hb4;have rU:=abC hk4;clear hb4 hk4 hz4)
   go_step3
   refine ⟨rfl,rfl,rfl,g2,g3,t+1,rfl,rfl,rfl,by go_num,⟨by omega,rU.out.blk HB2.out (by omega),?_,HST.out.kept (w:=w') ⟨rU.out.os,rU.out.tape,rU.out.output,rU.out.size,rU.out.block⟩ (by omega),qK.out.trans (Kept.toBelow (a:=w') ⟨rU.out.os,rU.out.tape,rU.out.output,rU.out.size,rU.out.block⟩ qK.out.size (by rintro i rfl;omega)),hd2,hd3⟩⟩
   ·rw [ou.out]
    exact congrArg (fun c=>some (Obj.cells c 91 (0,0))) (HN.out _ (congrArg (arr .u32) (pE (Zw v7 (e1 v4) (ch v4 v5 v6) kt wt (e0 v0) (maj v0 v1 v2)) rfl rfl rfl (Zx v3 v7 (e1 v4) (ch v4 v5 v6) kt wt) rfl rfl rfl)))
  ·have et:t=64:=by omega
   obtain ⟨vv,F7⟩:∃ vv,vv=rounds ws h 64:=⟨_,rfl⟩
   rw [et,← F7] at hb3
   have hcomp:sums h vv 8=comp h b:=by rw [F7,HE.out];rfl
   have hvl:vv.length=8:=by rw [F7];exact gP ws h HS.out.hl _
   have BO:=abC hcomp
   have vU:=abC hvl
   have HB3:=abC hb3
   have HST:=abC hst
   have qK:=abC hbw
   clear et F7 hcomp hvl hb2 hb3 hst hbw
   go_wp2_with fail
   go_loopw [105] (fun i wr=>∃ j:Nat,j≤8∧i = .int .i64 j∧wr.heap[g3]? = some (.cells (arr .u32 vv) 91 (0,0))∧bE wr p (sums h vv j) b n l∧Kept (fun x=>x=p) w wr) (fun i _=>8 - (intOf i).toNat)
   case atStart=>exact ⟨0,Nat.zero_le _,rfl,HB3.out,by rw [mK];exact HST.out,Kept.of_below qK.out⟩
   case round =>
    obtain ⟨j,hj8,rfl,hg,hs,hkp⟩:=hrel
    by_cases CJ:j < 8
    ·have y0:=hs.at_h j CJ
     rw [oV h vv j j (by rw [HS.out.hl];exact CJ) (Nat.le_refl _)] at y0
     have y1:=aJ hg j (by rw [vU.out];exact CJ)
     have y2:=hs.fr j
     have S1:Hid (∀ x,x=add (h.getD j 0) (vv.getD j 0)→bE (wr.setCell ⟨p,j,none⟩ (.int .u32 x)) p (sums h vv (j+1)) b n l) :=
      abC (by rintro x rfl;rw [mM h vv j (by rw [HS.out.hl];exact CJ)];exact hs.Wh j CJ _)
     have HG:=abC hg
     have HKP:=abC hkp
     clear hg hs hkp
     generalize h.getD j 0=hj0 at y0 S1
     generalize vv.getD j 0=vj at y1 S1
     go_wp2_with fail
     go_region
     go_wp2_with fail
     go_roundw
     case rel=>exact ⟨j+1,by omega,by go_num,ay HG.out _ (by omega),(S1.out _ (JA _ _)).drew,(HKP.out.setCell (p:=⟨p,j,none⟩) (.inl rfl) _).drew⟩
     case measure=>simp [intOf];omega
    ·have e8:j=8:=by omega
     rw [e8,BO.out] at hs
     have Gp:=abC hs
     have HKP:=abC hkp
     clear e8 hg hs hkp
     go_wp2_with fail
     (try simp only [Exit.jump])
     go_end0
     exact ⟨rfl,Gp.out,HKP.out⟩
 ·intro a w' hj
  obtain ⟨hfd,hfs,g2,g3,t,h0,h2,h3,h4,hJ⟩:=hj
  obtain ⟨ht,hb2,hb3,hst,hbw,hd2,hd3⟩:=hJ
  refine Jw (motive:=fun a=>a.tmps.getD 0 undef = .pointer (some ⟨p,0,none⟩)→a.tmps.getD 2 undef = .pointer (some ⟨g2,0,none⟩)→a.tmps.getD 3 undef = .pointer (some ⟨g3,0,none⟩)→a.tmps.getD 4 undef = .int .i64 (t:Int)→Code.wp _ _ (Exit.jump 0 (fun a' w''=>TJ w p h b ws n l a' w''∧(64 - intOf (a'.tmps.getD 4 undef)).toNat < (64 - intOf (a.tmps.getD 4 undef)).toNat) _) a w') ?_ a hfd hfs h0 h2 h3 h4
  clear h0 h2 h3 h4 hfd hfs
  intro u0 u1 u2 u3 u4 u5 u6 u7 u8 u9 u10 u11 u12 u13 u14 u15 u16 u17 u18 u19 u20 u21 u22 u23 u24 u25 u26 u27 u28 u29 u30 u31 u32 u33 u34 u35 u36 u37 u38 u39 u40 u41 u42 u43 u44 u45 u46 u47 u48 u49 u50 u51 u52 u53 u54 u55 u56 u57 u58 u59 u60 u61 u62 u63 u64 u65 u66 u67 u68 u69 u70 u71 u72 u73 u74 u75 u76 u77 u78 u79 u80 u81 u82 u83 u84 u85 u86 u87 u88 u89 u90 u91 u92 u93 u94 u95 u96 u97 u98 u99 u100 u101 u102 u103 u104 u105 u106 u107 u108 u109 u110 u111 u112 u113 u114 u115 u116 u117 u118 u119 u120 u121 h0 h2 h3 h4
  have k0:u0 = .pointer (some ⟨p,0,none⟩):=h0
  have k2:u2 = .pointer (some ⟨g2,0,none⟩):=h2
  have k3:u3 = .pointer (some ⟨g3,0,none⟩):=h3
  have k4:u4 = .int .i64 (t:Int):=h4
  clear h0 h2 h3 h4
  subst k0 k2 k3 k4
  have hpl:=aV HS.out.blk
  by_cases hlt:t < 64
  ·have hvl:=gP ws h HS.out.hl t
   have x0:=aJ hb3 0 (by omega)
   have x1:=aJ hb3 1 (by omega)
   have x2:=aJ hb3 2 (by omega)
   have x3:=aJ hb3 3 (by omega)
   have x4:=aJ hb3 4 (by omega)
   have x5:=aJ hb3 5 (by omega)
   have x6:=aJ hb3 6 (by omega)
   have x7:=aJ hb3 7 (by omega)
   have xk:=hst.at_k t hlt
   have xw:=aJ hb2 t (by rw [qV.out];omega)
   have HN:Hid (∀ cs,cs=arr .u32 (Sq (K.getD t 0) (ws.getD t 0) (rounds ws h t))→cs=arr .u32 (rounds ws h (t+1))):=abC (by rintro cs rfl;rw [rounds_succ])
   have HV8:=abC hvl
   have HB2:=abC hb2
   have HB3:=abC hb3
   have HST:=abC hst
   have qK:=abC hbw
   clear hb2 hb3 hst hbw hvl
   unfold Sq tx ty at HN
   generalize (rounds ws h t).getD 0 0=v0 at x0 HN
   generalize (rounds ws h t).getD 1 0=v1 at x1 HN
   generalize (rounds ws h t).getD 2 0=v2 at x2 HN
   generalize (rounds ws h t).getD 3 0=v3 at x3 HN
   generalize (rounds ws h t).getD 4 0=v4 at x4 HN
   generalize (rounds ws h t).getD 5 0=v5 at x5 HN
   generalize (rounds ws h t).getD 6 0=v6 at x6 HN
   generalize (rounds ws h t).getD 7 0=v7 at x7 HN
   generalize K.getD t 0=kt at xk HN
   generalize ws.getD t 0=wt at xw HN
   go_wp2_with fail
   go_region
   go_wp2_with (go_at_call 186; first|((with_reducible refine (rl_2 _ _).mono ?_);rintro e w' ⟨rfl,rfl⟩)|((with_reducible refine (rl_6 _ _).mono ?_);rintro e w' ⟨rfl,rfl⟩)|((with_reducible refine (rl_11 _ _).mono ?_);rintro e w' ⟨rfl,rfl⟩)|((with_reducible refine (rl_13 _ _).mono ?_);rintro e w' ⟨rfl,rfl⟩)|((with_reducible refine (rl_22 _ _).mono ?_);rintro e w' ⟨rfl,rfl⟩)|((with_reducible refine (rl_25 _ _).mono ?_);rintro e w' ⟨rfl,rfl⟩))
   go_quiet (fail)
   go_wp2_with ((with_reducible show wpList _ _ _ (Oper.mk none _ _ _ _ _ :: _) _ _);refine iT rfl 91 _ _ rfl g3 .u32 _ 91 HB3.out rfl _ _ _ _ _ _ _ _ rfl HV8.out mO ?_;intro w4 hb4 hk4 hz4;have ou:=abC hb4;have rU:=abC hk4;clear hb4 hk4 hz4)
   go_step3
   refine ⟨rfl,⟨rfl,rfl,g2,g3,t+1,rfl,rfl,rfl,by go_num,⟨by omega,rU.out.blk HB2.out (by omega),?_,HST.out.kept (w:=w') ⟨rU.out.os,rU.out.tape,rU.out.output,rU.out.size,rU.out.block⟩ (by omega),qK.out.trans (Kept.toBelow (a:=w') ⟨rU.out.os,rU.out.tape,rU.out.output,rU.out.size,rU.out.block⟩ qK.out.size (by rintro i rfl;omega)),hd2,hd3⟩⟩,by simp [intOf];omega⟩
   ·rw [ou.out]
    exact congrArg (fun c=>some (Obj.cells c 91 (0,0))) (HN.out _ (congrArg (arr .u32) (pE (Zw v7 (e1 v4) (ch v4 v5 v6) kt wt (e0 v0) (maj v0 v1 v2)) rfl rfl rfl (Zx v3 v7 (e1 v4) (ch v4 v5 v6) kt wt) rfl rfl rfl)))
  ·have et:t=64:=by omega
   obtain ⟨vv,F7⟩:∃ vv,vv=rounds ws h 64:=⟨_,rfl⟩
   rw [et,← F7] at hb3
   have hcomp:sums h vv 8=comp h b:=by rw [F7,HE.out];rfl
   have hvl:vv.length=8:=by rw [F7];exact gP ws h HS.out.hl _
   have BO:=abC hcomp
   have vU:=abC hvl
   have HB3:=abC hb3
   have HST:=abC hst
   have qK:=abC hbw
   clear et F7 hcomp hvl hb2 hb3 hst hbw
   go_wp2_with fail
   go_loopw [105] (fun i wr=>∃ j:Nat,j≤8∧i = .int .i64 j∧wr.heap[g3]? = some (.cells (arr .u32 vv) 91 (0,0))∧bE wr p (sums h vv j) b n l∧Kept (fun x=>x=p) w wr) (fun i _=>8 - (intOf i).toNat)
   case atStart=>exact ⟨0,Nat.zero_le _,rfl,HB3.out,by rw [mK];exact HST.out,Kept.of_below qK.out⟩
   case round =>
    obtain ⟨j,hj8,rfl,hg,hs,hkp⟩:=hrel
    by_cases CJ:j < 8
    ·have y0:=hs.at_h j CJ
     rw [oV h vv j j (by rw [HS.out.hl];exact CJ) (Nat.le_refl _)] at y0
     have y1:=aJ hg j (by rw [vU.out];exact CJ)
     have y2:=hs.fr j
     have S1:Hid (∀ x,x=add (h.getD j 0) (vv.getD j 0)→bE (wr.setCell ⟨p,j,none⟩ (.int .u32 x)) p (sums h vv (j+1)) b n l) :=
      abC (by rintro x rfl;rw [mM h vv j (by rw [HS.out.hl];exact CJ)];exact hs.Wh j CJ _)
     have HG:=abC hg
     have HKP:=abC hkp
     clear hg hs hkp
     generalize h.getD j 0=hj0 at y0 S1
     generalize vv.getD j 0=vj at y1 S1
     go_wp2_with fail
     go_region
     go_wp2_with fail
     go_roundw
     case rel=>exact ⟨j+1,by omega,by go_num,ay HG.out _ (by omega),(S1.out _ (JA _ _)).drew,(HKP.out.setCell (p:=⟨p,j,none⟩) (.inl rfl) _).drew⟩
     case measure=>simp [intOf];omega
    ·have e8:j=8:=by omega
     rw [e8,BO.out] at hs
     have Gp:=abC hs
     have HKP:=abC hkp
     clear e8 hg hs hkp
     go_wp2_with fail
     (try simp only [Exit.jump])
     go_end0
     exact ⟨rfl,Gp.out,HKP.out⟩
end Go.Proofs.YthdgbgleklkaiaaGreatDoor.Ha
