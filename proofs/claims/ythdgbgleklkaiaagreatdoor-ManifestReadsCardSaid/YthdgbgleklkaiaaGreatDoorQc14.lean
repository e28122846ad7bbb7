/- The document's hash (128). Condition: as each theorem says. -/

import Derived.Test.YthdgbgleklkaiaaGreatDoorQc08
import Derived.Test.YthdgbgleklkaiaaGreatDoorQc13
open Go.Lib renaming hid→abC
open List renaming replicate→abD,drop_zero→abG,take_of_length_le→abH,length_replicate→abJ
open BitVec renaming ofInt→abE
open Nat renaming le_refl→abF,zero_le→abI
set_option linter.unusedSimpArgs false
set_option linter.unusedVariables false
set_option maxRecDepth 100000
set_option maxHeartbeats 16000000
namespace Go.Proofs.YthdgbgleklkaiaaGreatDoor.Hb
open Go.RowKit
def eP (w:World):Prop:=∀ t,t < 80→w.cell? ⟨5, t,none⟩=some (.int .u64 (K.getD t 0))
structure dQ (w wr:World) (lim:Nat) (sm:Option Addr) (lm cm:Nat) (pm hs:List Int):Prop where
 h:wr.heap[w.heap.size+1]? = some (.cells (arr .u64 hs) 202 (0,0))
 own:aU wr (w.heap.size+2) (.slice sm lm cm) pm
 res:wr.heap[w.heap.size]? = some (.cells (arr .u8 (abD 64 0)) 27 (0,0))
 below:Below w.heap.size w wr
 tab:eP wr
 lt3:w.heap.size+1 < lim
 ltO:∀ k,(Value.slice sm lm cm).ownBlock=some k→k < lim
 ltG : 5 < w.heap.size
 sz:lim≤wr.heap.size
 hl:hs.length=8
theorem dQ.kept {T:Nat→Prop} {w wr w':World} {lim:Nat} {sm:Option Addr} {lm cm:Nat} {pm hs:List Int} (h:dQ w wr lim sm lm cm pm hs) (k:Kept T wr w') (hT:∀ i,T i→lim≤i):dQ w w' lim sm lm cm pm hs:=by
 have l3:=h.lt3
 have lg:=h.ltG
 refine ⟨k.blk h.h (fun e=>by have:=hT _ e;omega),h.own.kept k (fun g hg e=>by have:=hT _ e;have:=h.ltO g hg;omega),k.blk h.res (fun e=>by have:=hT _ e;omega),?_,?_,l3,h.ltO,lg,Nat.le_trans h.sz k.size,h.hl⟩
 ·exact h.below.trans (k.toBelow h.below.size (fun i e=>by have:=hT i e;omega))
 ·intro t ht
  exact k.lV (h.tab t ht) (fun e=>by have:lim ≤ 5 := hT _ e;omega)
theorem dQ.alloc {w wr:World} {lim:Nat} {sm:Option Addr} {lm cm:Nat} {pm hs:List Int} (h:dQ w wr lim sm lm cm pm hs) (o:Obj):dQ w (wr.alloc o) lim sm lm cm pm hs:=h.kept (T:=fun _=>False) ((Kept.refl _ _).alloc o) (fun _ e=>e.elim)
theorem dQ.drewN {w wr:World} {lim:Nat} {sm:Option Addr} {lm cm:Nat} {pm hs:List Int} (h:dQ w wr lim sm lm cm pm hs) (n:Nat):dQ w (wr.drewN n) lim sm lm cm pm hs:=h.kept (T:=fun _=>False) ((Kept.refl _ _).drewN n) (fun _ e=>e.elim)
theorem dQ.drew {w wr:World} {lim:Nat} {sm:Option Addr} {lm cm:Nat} {pm hs:List Int} (h:dQ w wr lim sm lm cm pm hs):dQ w wr.drew lim sm lm cm pm hs:=h.kept (T:=fun _=>False) ((Kept.refl _ _).drew) (fun _ e=>e.elim)
theorem dQ.far {w wr:World} {lim:Nat} {sm:Option Addr} {lm cm:Nat} {pm hs:List Int} (h:dQ w wr lim sm lm cm pm hs) (g i:Nat) (hg:lim≤g) (v:Value):dQ w (wr.setCell ⟨g,i,none⟩ v) lim sm lm cm pm hs :=
 h.kept ((Kept.refl (fun x=>x=g) wr).at i v) (by rintro i rfl;exact hg)
theorem dQ.seth {w wr:World} {lim:Nat} {sm:Option Addr} {lm cm:Nat} {pm hs:List Int} (h:dQ w wr lim sm lm cm pm hs) (i:Nat) (x:Int):dQ w (wr.setCell ⟨w.heap.size+1,i,none⟩ (.int .u64 x)) lim sm lm cm pm (hs.set i x):=by
 have k:Kept (fun x=>x=w.heap.size+1) wr (wr.setCell ⟨w.heap.size+1,i,none⟩ (.int .u64 x)):=(Kept.refl _ _).at _ _
 refine ⟨bJ h.h i x,h.own.kept k (fun g hg e=>?_),k.blk h.res (by omega),h.below.setCell (p:=⟨w.heap.size+1,i,none⟩) (by simp) _,fun t ht=>?_,h.lt3,h.ltO,h.ltG,by rw [show (wr.setCell ⟨w.heap.size+1,i,none⟩ (.int .u64 x)).heap.size=wr.heap.size by simp [World.setCell]];exact h.sz,by rw [List.length_set];exact h.hl⟩
 ·have:=(h.own.lt g hg).1
  omega
 ·refine k.lV (h.tab t ht) (fun e=>?_)
  have e : 5 = w.heap.size+1:=e
  have:=h.ltG
  omega
theorem eP.lt {w:World} (h:eP w) : 5 < w.heap.size:=World.block_lt_of_cell? _ _ (h 0 (by omega))
theorem Bn (w:World):(Instr.build 202 #[(0, .int .u64 7640891576956012808),(1, .int .u64 13503953896175478587),(2, .int .u64 4354685564936845355),(3, .int .u64 11912009170470909681),(4, .int .u64 5840696475078001361),(5, .int .u64 11170449401992604703),(6, .int .u64 2270897969802886507),(7, .int .u64 6620516959819538809)]).run Tryz.prog w = .ok (.agg (arr .u64 H0)) w:=by kernel_rfl
theorem uw (y:Int):IntKind.u8.wrap (bits .and .u64 y 255)=y % 256:=by
 have h2:(abE 64 (255:Int)).toNat=255:=by decide
 have e:∀ x:Nat,x &&& 255=x % 256:=fun x=>Nat.and_two_pow_sub_one_eq_mod x 8
 show IntKind.u8.wrap (IntKind.u64.wrap ((abE 64 y &&& abE 64 (255:Int)).toNat:Int))=_
 rw [BitVec.toNat_and,h2,e,BitVec.toNat_ofInt,IntKind.wrap_u8,IntKind.wrap_u64]
 omega
theorem dQ.cell {w wr:World} {lim:Nat} {sm:Option Addr} {lm cm:Nat} {pm hs:List Int} (h:dQ w wr lim sm lm cm pm hs) (i:Nat) (hi:i < pm.length):∃ a,sm=some a∧wr.cell? (a.add i)=some (.int .u8 (pm.getD i 0)):=by
 obtain ⟨sa,c,hv, -, -, hs, -⟩:=h.own.form
 cases hv
 exact hs.cell i hi
theorem wQ {P:Program} {f:FuncId} {args:Array Value} {w:World} {v:Value} (h:Calls P f args w fun e w'=>e = .returned v∧w=w'):Calls P f args w fun e w''=>e = .returned v∧w''=w:=h.mono fun _ _ h=>⟨h.1,h.2.symm⟩
theorem AP (xs pm:List Int) (n Q:Nat) (hn:xs.length=n) (hp:pm=xs ++ tail n) (hl:pm.length=128 * Q):hash xs=digest (jA pm Q):=by
 subst hn hp
 unfold hash
 rw [Lu _ Q hl]
theorem zP (xs pm:List Int) (n:Nat) (hx:bytes xs) (hp:pm=xs ++ tail n):∀ x∈pm,0≤x∧x≤255:=by
 subst hp
 intro x h
 rcases List.mem_append.1 h with h|h
 ·exact hx x h
 ·exact qX n x h
theorem Zv (a b c d:Int):IntKind.u64.wrap (IntKind.u64.wrap (IntKind.u64.wrap (a+b)+c)+d)=add (add (add d c) b) a:=by
 simp only [add,IntKind.wrap_u64]
 omega
theorem jw (sa:Option Addr) (n c:Nat) (xs:List Int) (w:World) (hs:Src w sa n xs) (hx:bytes xs) (hn:n≤70368744177664) (hk:eP w) :
  Calls Tryz.prog 128 #[.slice sa n c] w fun e w'=>e = .returned (.agg (arr .u8 (hash xs)))∧Below w.heap.size w w':=by
 have hg:=hk.lt
 have hxl:=hs.len
 have z1:(Tryz.prog.info? 202).map (·.size)=some (arr .u64 H0).size:=mO
 have z2:(arr .u64 H0).size=(arr .u64 (abD 8 0)).size:=rfl
 have HS:=abC hs
 have HX:=abC hx
 have HK:=abC hk
 have HG:=abC hg
 have jc:=abC hxl
 have Z1:=abC z1
 have Z2:=abC z2
 have B1:=abC (aH w (.cells (arr .u8 (abD 64 0)) 27))
 have B2:=abC (aH (w.alloc (.cells (arr .u8 (abD 64 0)) 27)) (.cells (arr .u64 (abD 8 0)) 202))
 have eA:(w.alloc (.cells (arr .u8 (abD 64 0)) 27)).heap.size=w.heap.size+1:=by simp
 rw [eA] at B2
 have EA:=abC eA
 clear hs hx hk hg hxl z1 z2 eA
 go_enter Tryz.func128, Tryz.ntmps128
 go_wp2_with (first|((with_reducible refine aS 2 ?_);refine ah rfl 27 rfl _ (nE _) ?_)|((with_reducible refine aS 21 ?_);refine wpList_build rfl 202 _ rfl #[(0, .int .u64 7640891576956012808),(1, .int .u64 13503953896175478587),(2, .int .u64 4354685564936845355),(3, .int .u64 11912009170470909681),(4, .int .u64 5840696475078001361),(5, .int .u64 11170449401992604703),(6, .int .u64 2270897969802886507),(7, .int .u64 6620516959819538809)] rfl _ (Bn _) ?_)|((with_reducible refine aS 3 ?_);refine ah rfl 202 rfl _ (CX _) ?_;rw [EA.out])|((with_reducible show wpList _ _ _ (Oper.mk none _ _ _ _ _ :: _) _ _);refine au rfl 202 _ _ rfl (w.heap.size+1) _ _ 202 B2.out rfl rfl Z2.out Z1.out (ak _ _) ?_;intro w1 hb1 hk1 hz1;have hw1:=(((Below.refl _ w).alloc (abF _) _).alloc (by simp) _).trans (hk1.toBelow (B:=w.heap.size) (by simp;omega) (by rintro i rfl;omega));have HW1:=abC hw1;have HB1:=abC hb1;have qJ:=abC hk1;have HZ1:=abC hz1;clear hb1 hk1 hz1 hw1)|(go_at_call 52; refine (ru sa n c xs w1 (HS.out.below HW1.out) hn).mono ?_;rintro e w2 ⟨v,rfl,hown2,Yi⟩;have xV:=abC hown2;have BP:=abC Yi;clear hown2 Yi))
 have hz1:w1.heap.size=w.heap.size+2:=by rw [HZ1.out];simp
 obtain ⟨pm,hpm⟩:∃ pm,pm=xs ++ tail n:=⟨_,rfl⟩
 obtain ⟨lim,hlim⟩:∃ lim,lim=w2.heap.size:=⟨_,rfl⟩
 obtain ⟨Q,hQ⟩:=zk n
 have hpl:pm.length=128 * Q:=by rw [hpm,List.length_append,jc.out];exact hQ
 have ho2:=xV.out
 rw [← hpm] at ho2
 obtain ⟨sm,cm,hvm, -, -, -, -⟩:=ho2.form
 rw [hpl] at hvm
 subst hvm
 have hb2s:=BP.out.size
 have hbw2:Below w.heap.size w w2:=HW1.out.trans (BP.out.mono (by omega))
 have hR0:dQ w w2 lim sm (128 * Q) cm pm (jA pm 0):=by
  have hg:=HG.out
  refine ⟨?_,ho2.mono (by omega),Below.blk BP.out (qJ.out.blk (aY B1.out _) (by omega)) (by omega),hbw2,fun t ht=>eD hbw2 (HK.out t ht),by omega,fun k hk=>by rw [hlim];exact (ho2.lt k hk).2,hg,by omega,Ls _ _⟩
  rw [FV]
  exact Below.blk BP.out HB1.out (by omega)
 have hnl:(128 * Q)≤70368744178000:=by
  have hq:n+(tail n).length=(128 * Q):=hQ
  have:(tail n).length≤256:=by simp [tail];omega
  omega
 have Yh:=zP xs pm n HX.out hpm
 have HEND:=abC (AP xs pm n Q jc.out hpm hpl)
 have Og:=abC hpl
 have Cm:=abC hR0
 have HBYT:=abC Yh
 clear hz1 hpm hlim hQ hpl ho2 hb2s hbw2 hR0 Yh xV BP HW1 HB1 qJ HZ1 B1 B2 EA
 go_wp2_with fail
 go_loopw [5] (fun i wr=>∃ q:Nat,q≤Q∧i = .int .i64 (128 * (q:Int))∧dQ w wr lim sm (128 * Q) cm pm (jA pm q)) (fun i _=>(128 * Q) - (intOf i).toNat)
 case atStart=>exact ⟨0,by omega,rfl,Cm.out⟩
 clear Cm
 case round =>
 obtain ⟨q,hq,rfl,hR⟩:=hrel
 obtain ⟨wo,rfl⟩:∃ wo:World,wo=wr:=⟨_,rfl⟩
 by_cases hlt:q < Q
 ·obtain ⟨hv0,hh⟩:∃ hv0,hv0=jA pm q:=⟨_,rfl⟩
  obtain ⟨bl,hbl⟩:∃ bl,bl=eX pm q:=⟨_,rfl⟩
  have hsu:jA pm (q+1)=comp hv0 bl:=by rw [hh,hbl];exact FW pm q (by rw [Og.out];omega)
  have hby:∀ j,0≤bl.getD j 0∧bl.getD j 0≤255:=by
   intro j
   refine byte_at (fun x hx=>HBYT.out x ?_) j
   rw [hbl] at hx
   exact List.mem_of_mem_drop (List.mem_of_mem_take hx)
  have hR1:=hR
  rw [← hh] at hR1
  have Bv:=abC hR.sz
  have HR2:=abC (hR1.alloc (.cells (arr .u64 (abD 80 0)) 213))
  have hb2:=aH wo (.cells (arr .u64 (abD 80 0)) 213)
  rw [← jW bl] at hb2
  have HB2:=abC hb2
  have HSU:=abC hsu
  have HBY:=abC hby
  have qM:=abC hbl.symm
  have HHL:=abC hR1.hl
  clear hR hR1 hb2 hsu hby hbl hh
  go_wp2_with ((with_reducible refine aS 6 ?_);refine ah rfl 213 rfl _ (yR _) ?_)
  rw [jW bl] at HB2
  rw [← jW bl] at HB2
  go_loopw [7] (fun i wr=>∃ i6:Nat,i6≤16∧i = .int .i64 i6∧dQ w wr lim sm (128 * Q) cm pm hv0∧wr.heap[wo.heap.size]? = some (.cells (arr .u64 (pre bl (8 * i6))) 213 (0,0))) (fun i _=>16 - (intOf i).toNat)
  case atStart=>exact ⟨0,by omega,rfl,HR2.out,HB2.out⟩
  case round =>
   obtain ⟨i6,hi6,rfl,hR,hb⟩:=hrel
   by_cases hlt6:i6 < 16
   ·have HR:=abC hR
    have HB:=abC hb
    clear hR hb
    go_wp2_with fail
    go_loopw [8] (fun i wr=>∃ k6:Nat,k6≤8∧i = .int .i64 k6∧dQ w wr lim sm (128 * Q) cm pm hv0∧wr.heap[wo.heap.size]? = some (.cells (arr .u64 (pre bl (8 * i6+k6))) 213 (0,0))) (fun i _=>8 - (intOf i).toNat)
    case atStart=>exact ⟨0,by omega,rfl,HR.out,HB.out⟩
    case round =>
     obtain ⟨k6,LD,rfl,hR,hb⟩:=hrel
     by_cases hlt7:k6 < 8
     ·obtain ⟨ad,rfl,y1⟩:=hR.cell (128 * q+(8 * i6+k6)) (by rw [Og.out];omega)
      rw [← Gg pm q (8 * i6+k6) (by omega),qM.out] at y1
      obtain ⟨b0,b1⟩:=HBY.out (8 * i6+k6)
      have y0:=aJ hb i6 (by rw [yx];omega)
      have yf:=aC hb i6
      have hps:=zO bl (8 * i6+k6) (by omega)
      rw [show (8 * i6+k6) / 8=i6 by omega] at hps
      have g1:=bJ hb i6 (bits .or .u64 (IntKind.u64.wrap ((pre bl (8 * i6+k6)).getD i6 0 * 256)) (bl.getD (8 * i6+k6) 0))
      rw [← hps] at g1
      have G1:=abC g1
      have HR4:=abC (fun v=>hR.far wo.heap.size i6 Bv.out v)
      clear hR hb hps g1
      generalize (pre bl (8 * i6+k6)).getD i6 0=y at y0 G1
      generalize bl.getD (8 * i6+k6) 0=x at y1 b0 b1 G1
      have j1:IntKind.i64.wrap (8 * (i6:Int))=8 * (i6:Int):=IntWalk.i64_in _ (by omega)
      have j2:IntKind.i64.wrap (128 * (q:Int)+8 * (i6:Int))=128 * (q:Int)+8 * (i6:Int):=IntWalk.i64_in _ (by omega)
      have j3:IntKind.i64.wrap (128 * (q:Int)+8 * (i6:Int)+(k6:Int))=128 * (q:Int)+8 * (i6:Int)+(k6:Int):=IntWalk.i64_in _ (by omega)
      have n1:(128 * (q:Int)+8 * (i6:Int)+(k6:Int)).toNat=128 * q+(8 * i6+k6):=by omega
      have n2:0≤128 * (q:Int)+8 * (i6:Int)+(k6:Int):=by omega
      have n3:128 * (q:Int)+8 * (i6:Int)+(k6:Int) < ((128 * Q):Int):=by omega
      go_wp2_with fail
      go_region
      clear j1 j2 j3 n1 n2 n3
      go_wp2_with fail
      go_roundw
      case rel=>exact ⟨k6+1,by omega,by go_num,(HR4.out _).drew,G1.out⟩
      case measure=>simp [intOf];omega
     ·rw [show 8 * i6+k6=8 * (i6+1) by omega] at hb
      have HR4:=abC hR
      have ou:=abC hb
      clear hR hb
      go_wp2_with fail
      go_roundw
      case rel=>exact ⟨i6+1,by omega,by go_num,HR4.out,ou.out⟩
      case measure=>simp [intOf];omega
   ·rw [show i6=16 by omega,show 8 * 16=128 from rfl] at hb
    have Ei:=abC hR
    have hb5:wr.heap[wo.heap.size]? = some (.cells (arr .u64 (sched bl 0)) 213 (0,0)):=hb
    have gy:=abC hb5
    clear hR hb hb5
    go_wp2_with fail
    go_loopw [9] (fun i wr=>∃ t:Nat,16≤t∧t≤80∧i = .int .i64 t∧dQ w wr lim sm (128 * Q) cm pm hv0∧wr.heap[wo.heap.size]? = some (.cells (arr .u64 (sched bl (t - 16))) 213 (0,0))) (fun i _=>80 - (intOf i).toNat)
    case atStart=>exact ⟨16,by omega,by omega,rfl,Ei.out,gy.out⟩
    clear Ei gy
    case round =>
    obtain ⟨t,h16,ht,rfl,hR,g1⟩:=hrel
    by_cases hltt:t < 80
    ·have hsl:=gY bl (t - 16)
     have x2:=aJ g1 (t - 2) (by omega)
     have x7:=aJ g1 (t - 7) (by omega)
     have x15:=aJ g1 (t - 15) (by omega)
     have x16:=aJ g1 (t - 16) (by omega)
     have xt:=aJ g1 t (by omega)
     have xf:=aC g1 t
     have hnx:sched bl (t - 16+1)=(sched bl (t - 16)).set t (next (sched bl (t - 16)) t):=by
      have:=jK bl (t - 16)
      rwa [show 16+(t - 16)=t by omega] at this
     have g1':=bJ g1 t (next (sched bl (t - 16)) t)
     rw [← hnx,show t - 16+1=t+1 - 16 by omega] at g1'
     have G1:Hid (∀ v,v=next (sched bl (t - 16)) t→(wr.setCell ⟨wo.heap.size,t,none⟩ (.int .u64 v)).heap[wo.heap.size]? = some (.cells (arr .u64 (sched bl (t+1 - 16))) 213 (0,0))):=abC (by rintro v rfl;exact g1')
     have Od:=abC (fun v=>hR.far wo.heap.size t Bv.out v)
     clear g1 g1' hR hsl hnx
     unfold next at G1
     generalize (sched bl (t - 16)).getD (t - 2) 0=y2 at x2 G1
     generalize (sched bl (t - 16)).getD (t - 7) 0=y7 at x7 G1
     generalize (sched bl (t - 16)).getD (t - 15) 0=y15 at x15 G1
     generalize (sched bl (t - 16)).getD (t - 16) 0=y16 at x16 G1
     have i15:IntKind.i64.wrap ((t:Int) - 15)=(t:Int) - 15:=IntWalk.i64_in _ (by omega)
     have i2:IntKind.i64.wrap ((t:Int) - 2)=(t:Int) - 2:=IntWalk.i64_in _ (by omega)
     have i7:IntKind.i64.wrap ((t:Int) - 7)=(t:Int) - 7:=IntWalk.i64_in _ (by omega)
     have i16:IntKind.i64.wrap ((t:Int) - 16)=(t:Int) - 16:=IntWalk.i64_in _ (by omega)
     have n15:((t:Int) - 15).toNat=t - 15:=by omega
     have n2:((t:Int) - 2).toNat=t - 2:=by omega
     have n7:((t:Int) - 7).toNat=t - 7:=by omega
     have n16:((t:Int) - 16).toNat=t - 16:=by omega
     have p16:16≤(t:Int):=by omega
     have p7:7≤(t:Int):=by omega
     have q16:(t:Int) - 16 < 80:=by omega
     have q7:(t:Int) - 7 < 80:=by omega
     have qt:(t:Int) < 80:=by omega
     go_wp2_with fail
     refine wp_region_still_tail 29 (by kernel_rfl) (by kernel_rfl) ?_
     simp only [List.take_succ_cons,List.take_zero,List.drop_succ_cons,abG]
     repeat still_step
     (refine wpStill_step (fun K hK=>?_);go_simp;refine Exists.intro _ (And.intro (wQ (ror_1 _ _)) ?_);refine hK _ ?_;clear hK K)
     repeat still_step
     (refine wpStill_step (fun K hK=>?_);go_simp;refine Exists.intro _ (And.intro (wQ (ror_8 _ _)) ?_);refine hK _ ?_;clear hK K)
     repeat still_step
     (refine wpStill_step (fun K hK=>?_);go_simp;refine Exists.intro _ (And.intro (wQ (KM _ _)) ?_);refine hK _ ?_;clear hK K)
     repeat still_step
     (refine wpStill_step (fun K hK=>?_);go_simp;refine Exists.intro _ (And.intro (wQ (ror_61 _ _)) ?_);refine hK _ ?_;clear hK K)
     repeat still_step
     refine wpStill_nil ?_
     change wpList _ _ _ _ _ wr.drew
     go_wp2_with fail
     clear i15 i2 i7 i16 n15 n2 n7 n16 p16 p7 q16 q7 qt
     go_roundw
     case rel=>exact ⟨t+1,by omega,by omega,by go_num,(Od.out _).drew,G1.out _ (Zv y16 (s0 y15) y7 (s1 y2))⟩
     case measure=>simp [intOf];omega
    ·obtain rfl:t=80:=by omega
     obtain ⟨ws,hws⟩:∃ ws,ws=sched bl (80 - 16):=⟨_,rfl⟩
     rw [← hws] at g1
     have hwl:ws.length=80:=by rw [hws];exact gY _ _
     have hp8:((arr .u64 hv0).toList.drop 0).take hv0.length=hv0.map (Value.int .u64):=by rw [abG,bN,abH (by simp)]
     have U0:(Tryz.prog.info? 202).map (·.size)=some hv0.length:=by rw [hR.hl];exact mO
     have z3:(Tryz.prog.info? 202).map (·.size)=some (arr .u64 hv0).size:=by rw [aD,hR.hl];exact mO
     have z4:(arr .u64 hv0).size=(arr .u64 (abD 8 0)).size:=by rw [aD,aD,hR.hl,abJ]
     have HWS:=abC hws
     have qV:=abC hwl
     have HP8:=abC hp8
     have HZ8:=abC U0
     have Z3:=abC z3
     have Z4:=abC z4
     have rV:=abC (aY g1 (.cells (arr .u64 (abD 8 0)) 202))
     have nC:=abC (aV g1)
     have HH:=abC hR.h
     have Eh:=abC (hR.alloc (.cells (arr .u64 (abD 8 0)) 202))
     have HA8:=abC (aH wr (.cells (arr .u64 (abD 8 0)) 202))
     have Bw:=abC hR.sz
     obtain ⟨wp,rfl⟩:∃ wp:World,wp=wr:=⟨_,rfl⟩
     clear hws hwl hp8 U0 z3 z4 g1 hR
     go_wp2_with (first|((with_reducible refine aS 96 ?_);refine aB rfl 202 _ rfl (w.heap.size+1) 0 _ 202 (0,0) _ HH.out rfl .u64 hv0 HP8.out Tryz.underlying202 rfl HZ8.out ?_)|((with_reducible refine aS 12 ?_);refine ah rfl 202 rfl _ (CX _) ?_)|((with_reducible show wpList _ _ _ (Oper.mk none _ _ _ _ _ :: _) _ _);refine au rfl 202 _ _ rfl wp.heap.size _ _ 202 HA8.out rfl rfl Z4.out Z3.out (ak _ _) ?_;intro w5 hb5 hk5 hz5;have BA:=abC (Eh.out.kept hk5 (by rintro i rfl;exact Bw.out));have gu:=abC hb5;have U4:=abC (hk5.blk rV.out (by have:=nC.out;omega));clear hb5 hk5 hz5))
     go_loopw [13] (fun i wq=>∃ j:Nat,j≤80∧i = .int .i64 j∧dQ w wq lim sm (128 * Q) cm pm hv0∧wq.heap[wo.heap.size]? = some (.cells (arr .u64 ws) 213 (0,0))∧wq.heap[wp.heap.size]? = some (.cells (arr .u64 (rounds ws hv0 j)) 202 (0,0))) (fun i _=>80 - (intOf i).toNat)
     case atStart=>exact ⟨0,abI _,rfl,BA.out,U4.out,gu.out⟩
     clear Eh BA gu U4 HA8 rV HH
     case round =>
     obtain ⟨j,hj,rfl,hR,hw,hv⟩:=hrel
     by_cases hltj:j < 80
     ·have hvl:=gP ws hv0 HHL.out j
      have x0:=aJ hv 0 (by omega)
      have x1:=aJ hv 1 (by omega)
      have x2:=aJ hv 2 (by omega)
      have x3:=aJ hv 3 (by omega)
      have x4:=aJ hv 4 (by omega)
      have x5:=aJ hv 5 (by omega)
      have x6:=aJ hv 6 (by omega)
      have x7:=aJ hv 7 (by omega)
      have xk:=hR.tab j hltj
      have xw:=aJ hw j (by rw [qV.out];omega)
      have HN:Hid (∀ cs,cs=arr .u64 (Sq (K.getD j 0) (ws.getD j 0) (rounds ws hv0 j))→cs=arr .u64 (rounds ws hv0 (j+1))):=abC (by rintro cs rfl;rw [rounds_succ])
      have HV8:=abC hvl
      have HB2:=abC hw
      have HB3:=abC hv
      have UM:=abC hR
      clear hw hv hR hvl
      unfold Sq tx ty at HN
      generalize (rounds ws hv0 j).getD 0 0=v0 at x0 HN
      generalize (rounds ws hv0 j).getD 1 0=v1 at x1 HN
      generalize (rounds ws hv0 j).getD 2 0=v2 at x2 HN
      generalize (rounds ws hv0 j).getD 3 0=v3 at x3 HN
      generalize (rounds ws hv0 j).getD 4 0=v4 at x4 HN
      generalize (rounds ws hv0 j).getD 5 0=v5 at x5 HN
      generalize (rounds ws hv0 j).getD 6 0=v6 at x6 HN
      generalize (rounds ws hv0 j).getD 7 0=v7 at x7 HN
      generalize K.getD j 0=kt at xk HN
      generalize ws.getD j 0=wt at xw HN
      go_wp2_with fail
      refine wp_region_still_lit (by kernel_rfl) (by kernel_rfl) ?_
      repeat still_step
      (refine wpStill_step (fun K hK=>?_);go_simp;refine Exists.intro _ (And.intro (wQ (ror_14 _ _)) ?_);refine hK _ ?_;clear hK K)
      repeat still_step
      (refine wpStill_step (fun K hK=>?_);go_simp;refine Exists.intro _ (And.intro (wQ (KN _ _)) ?_);refine hK _ ?_;clear hK K)
      repeat still_step
      (refine wpStill_step (fun K hK=>?_);go_simp;refine Exists.intro _ (And.intro (wQ (ror_41 _ _)) ?_);refine hK _ ?_;clear hK K)
      repeat still_step
      refine wpStill_nil ?_
      go_wp2_with fail
      have y1:wr.drew.cell? ⟨wp.heap.size,1,none⟩=some (.int .u64 v1):=x1
      have y2:wr.drew.cell? ⟨wp.heap.size,2,none⟩=some (.int .u64 v2):=x2
      have y3:wr.drew.cell? ⟨wp.heap.size,3,none⟩=some (.int .u64 v3):=x3
      have y5:wr.drew.cell? ⟨wp.heap.size,5,none⟩=some (.int .u64 v5):=x5
      have y6:wr.drew.cell? ⟨wp.heap.size,6,none⟩=some (.int .u64 v6):=x6
      have Rl:Hid (wr.drew.heap[wo.heap.size]? = some (.cells (arr .u64 ws) 213 (0,0))):=HB2
      have HC3:Hid (wr.drew.heap[wp.heap.size]? = some (.cells (arr .u64 (rounds ws hv0 j)) 202 (0,0))):=HB3
      have BD:=abC UM.out.drew
      clear x0 x1 x2 x3 x4 x5 x6 x7 xk xw HB2 HB3 UM
      generalize wr.drew=w6 at y1 y2 y3 y5 y6 Rl HC3 BD ⊢
      refine wp_region_still_lit (by kernel_rfl) (by kernel_rfl) ?_
      repeat still_step
      (refine wpStill_step (fun K hK=>?_);go_simp;refine Exists.intro _ (And.intro (wQ (ror_28 _ _)) ?_);refine hK _ ?_;clear hK K)
      repeat still_step
      (refine wpStill_step (fun K hK=>?_);go_simp;refine Exists.intro _ (And.intro (wQ (ror_34 _ _)) ?_);refine hK _ ?_;clear hK K)
      repeat still_step
      (refine wpStill_step (fun K hK=>?_);go_simp;refine Exists.intro _ (And.intro (wQ (ror_39 _ _)) ?_);refine hK _ ?_;clear hK K)
      repeat still_step
      refine wpStill_nil ?_
      go_wp2_with ((with_reducible show wpList _ _ _ (Oper.mk none _ _ _ _ _ :: _) _ _);refine iT rfl 202 _ _ rfl wp.heap.size .u64 _ 202 HC3.out rfl _ _ _ _ _ _ _ _ rfl HV8.out mO ?_;intro w4 hb4 hk4 hz4;have ou:=abC hb4;have rU:=abC hk4;clear hb4 hk4 hz4)
      go_wp2_with fail
      go_roundw
      case rel =>
       refine ⟨j+1,by omega,by go_num,BD.out.drew.kept rU.out (by rintro i rfl;exact Bw.out),rU.out.blk Rl.out (by have:=nC.out;omega),?_⟩
       rw [ou.out]
       exact congrArg (fun c=>some (Obj.cells c 202 (0,0))) (HN.out _ (congrArg (arr .u64) (pE rfl rfl rfl rfl rfl rfl rfl rfl)))
      case measure=>simp [intOf];omega
     ·obtain rfl:j=80:=by omega
      obtain ⟨vv,F7⟩:∃ vv,vv=rounds ws hv0 80:=⟨_,rfl⟩
      rw [← F7] at hv
      have hcomp:sums hv0 vv 8=comp hv0 bl:=by rw [F7,HWS.out];rfl
      have hvl:vv.length=8:=by rw [F7];exact gP ws hv0 HHL.out _
      have hne:w.heap.size+1≠wp.heap.size:=by have:=hR.lt3;have:=Bw.out;omega
      have BO:=abC hcomp
      have vU:=abC hvl
      have HNE:=abC hne
      have HVX:=abC hv
      have HRX:=abC hR
      clear F7 hcomp hvl hne hv hR hw
      go_wp2_with fail
      go_loopw [18] (fun i wq=>∃ j8:Nat,j8≤8∧i = .int .i64 j8∧dQ w wq lim sm (128 * Q) cm pm (sums hv0 vv j8)∧wq.heap[wp.heap.size]? = some (.cells (arr .u64 vv) 202 (0,0))) (fun i _=>8 - (intOf i).toNat)
      case atStart=>exact ⟨0,abI _,rfl,by rw [mK];exact HRX.out,HVX.out⟩
      clear HRX HVX
      case round =>
      obtain ⟨j8,hj8,rfl,hR,hv⟩:=hrel
      by_cases CJ:j8 < 8
      ·have y0:=aJ hR.h j8 (by rw [hR.hl];exact CJ)
       rw [oV hv0 vv j8 j8 (by rw [HHL.out];exact CJ) (abF _)] at y0
       have y1:=aJ hv j8 (by rw [vU.out];exact CJ)
       have y2:=aC hR.h j8
       have S1:Hid (∀ x,x=add (hv0.getD j8 0) (vv.getD j8 0)→dQ w (wr.setCell ⟨w.heap.size+1,j8,none⟩ (.int .u64 x)) lim sm (128 * Q) cm pm (sums hv0 vv (j8+1))):=abC (by rintro x rfl;rw [mM hv0 vv j8 (by rw [HHL.out];exact CJ)];exact hR.seth j8 _)
       have HG:=abC hv
       clear hv hR
       generalize hv0.getD j8 0=hj0 at y0 S1
       generalize vv.getD j8 0=vj at y1 S1
       go_wp2_with fail
       go_region
       go_wp2_with fail
       go_roundw
       case rel=>exact ⟨j8+1,by omega,by go_num,(S1.out _ (JA _ _)).drew,ay HG.out _ (Ne.symm HNE.out)⟩
       case measure=>simp [intOf];omega
      ·have e8:j8=8:=by omega
       rw [e8,BO.out,← HSU.out] at hR
       have Ck:=abC hR
       clear e8 hv hR
       go_wp2_with fail
       go_roundw
       case rel=>exact ⟨q+1,by omega,by go_num,Ck.out⟩
       case measure=>simp [intOf];omega
 ·obtain rfl:q=Q:=by omega
  have hend:=HEND.out
  obtain ⟨hf,ehf⟩:∃ hf,hf=jA pm q:=⟨_,rfl⟩
  rw [← ehf] at hR hend
  have hdl:(digest hf).length=64:=by simp [digest]
  have hfl:=hR.hl
  have dP:(wo.alloc (.cells (arr .u8 (abD 64 0)) 27)).heap[wo.heap.size]? = some (.cells (arr .u8 ((digest hf).take 0 ++ abD (64 - 0) 0)) 27 (0,0)):=aH _ _
  have Bv:=abC hR.sz
  have BA:=abC (hR.alloc (.cells (arr .u8 (abD 64 0)) 27))
  have oN:=abC dP
  have HE2:=abC hend
  have yQ:=abC hdl
  have HFL:=abC hfl
  clear hR hend ehf hdl hfl dP HEND HBYT
  go_wp2_with ((with_reducible refine aS 19 ?_);refine ah rfl 27 rfl _ (nE _) ?_)
  go_loopw [20] (fun i wr=>∃ i9:Nat,i9≤64∧i = .int .i64 i9∧wr.heap[wo.heap.size]? = some (.cells (arr .u8 ((digest hf).take i9 ++ abD (64 - i9) 0)) 27 (0,0))∧dQ w wr lim sm (128 * q) cm pm hf) (fun i _=>64 - (intOf i).toNat)
  case atStart=>exact ⟨0,abI _,rfl,oN.out,BA.out⟩
  clear oN BA
  case round =>
  obtain ⟨i9,hi9,rfl,hb,hR⟩:=hrel
  by_cases CG:i9 < 64
  ·have y0:=aJ hR.h (i9 / 8) (by rw [hR.hl];omega)
   have y1:=aJ hb i9 (by simp [yQ.out];omega)
   have y2:=aC hb i9
   have G1:Hid (∀ v,v=hf.getD (i9 / 8) 0 / 2 ^ (8 * (7 - i9 % 8)) % 256→(wr.setCell ⟨wo.heap.size,i9,none⟩ (.int .u8 v)).heap[wo.heap.size]? = some (.cells (arr .u8 ((digest hf).take (i9+1) ++ abD (64 - (i9+1)) 0)) 27 (0,0))):=abC (by
    rintro v rfl
    rw [bJ hb,yI hf i9 CG _ (dn hf i9 CG).symm])
   have CV:=abC (fun v=>hR.far wo.heap.size i9 Bv.out v)
   have e1:(56 - 8 * ((i9:Int) % 8)).toNat=8 * (7 - i9 % 8):=by omega
   have e2:0≤56 - 8 * ((i9:Int) % 8):=by omega
   have e3:56 - 8 * ((i9:Int) % 8)≤56:=by omega
   clear hb hR
   generalize hf.getD (i9 / 8) 0=x at y0 G1
   go_wp2_with fail
   clear e1 e2 e3
   go_roundw
   case rel=>exact ⟨i9+1,by omega,by go_num,G1.out _ (uw _),CV.out _⟩
   case measure=>simp [intOf];omega
  ·rw [show i9=64 by omega,Nat.sub_self,List.replicate_zero,List.append_nil,abH (by rw [yQ.out];omega)] at hb
   have z1:(Tryz.prog.info? 27).map (·.size)=some (digest hf).length:=by rw [yQ.out];exact nM
   have z2:(Tryz.prog.info? 27).map (·.size)=some (arr .u8 (digest hf)).size:=by rw [aD,yQ.out];exact nM
   have z3:(arr .u8 (digest hf)).size=(arr .u8 (abD 64 0)).size:=by rw [aD,aD,yQ.out,abJ]
   have z4:((arr .u8 (digest hf)).toList.drop 0).take (digest hf).length=(digest hf).map (Value.int .u8):=by rw [bN,abG,abH (by simp)]
   have HB:=abC hb
   have Ck:=abC hR
   have ZZ1:=abC z1
   have ZZ2:=abC z2
   have ZZ3:=abC z3
   have ZZ4:=abC z4
   clear hb hR z1 z2 z3 z4
   go_wp2_with (first|((with_reducible refine aS 208 ?_);refine aB rfl 27 _ rfl wo.heap.size 0 _ 27 (0,0) _ HB.out rfl .u8 (digest hf) ZZ4.out Tryz.underlying27 rfl ZZ1.out ?_)|((with_reducible show wpList _ _ _ (Oper.mk none _ _ _ _ _ :: _) _ _);refine au rfl 27 _ _ rfl w.heap.size _ _ 27 Ck.out.res rfl rfl ZZ3.out ZZ2.out (ak _ _) ?_;intro w7 jh qP Cy;have fC:=abC jh;have HK7:=abC qP;clear jh qP Cy))
   (try simp only [Exit.inBlock,Exit.then])
   refine bodyPost_ret (results_cell_row rfl _ _ w.heap.size 27 _ (0,0) _ rfl fC.out Tryz.underlying27 rfl ZZ2.out) rfl ?_
   rw [HE2.out]
   exact ⟨rfl,Ck.out.below.trans (HK7.out.toBelow Ck.out.below.size (by rintro i rfl;exact abF _))⟩
end Go.Proofs.YthdgbgleklkaiaaGreatDoor.Hb
