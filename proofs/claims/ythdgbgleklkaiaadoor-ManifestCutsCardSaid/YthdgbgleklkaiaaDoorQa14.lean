/- The document's root. Condition: as each theorem says. -/

import Derived.Test.YthdgbgleklkaiaaDoorQa03
import Derived.Test.YthdgbgleklkaiaaDoorQa13
set_option linter.unusedSimpArgs false
set_option linter.unusedVariables false
set_option maxRecDepth 100000
set_option maxHeartbeats 16000000
namespace Go.Proofs.YthdgbgleklkaiaaDoor.Rd
open Go.RowKit Lm Fp
def imL:List Int:=[0xa0b0,0x4a0e,0x1b27,0xc4ee,0xe478,0xad2f,0x1806,0x2f43,0xd7a7,0x3dfb,0x99,0x2b4d,0xdf0b,0x4fc1,0x2480,0x2b83]
theorem imL_el:El imL im:=by refine ⟨rfl,by decide +kernel,by decide +kernel⟩
def Si (w:World):Prop:=w.rangeAt 5 0 (imL.map (Value.int .i64))
theorem bA {a b:World} {g o:Nat} {xs:List Value} (h:a.rangeAt g o xs) (k:Below a.heap.size a b):b.rangeAt g o xs:=kW h (Kept.of_below k (T:=fun _=>False)) id
theorem yS {a:World} {g o:Nat} {x:Value} {xs:List Value} (h:a.rangeAt g o (x :: xs)):g < a.heap.size:=World.block_lt_of_cell? _ _ (h 0 x rfl)
theorem Us (xs:List Int) (a:Nat) (w:World) (hx:El xs a) (hT:Si w) :
  Calls Tryd.prog 82 #[.agg (arr .i64 xs)] w fun e w'=>∃ zs,e = .returned (.tuple #[.agg (arr .i64 zs), .bool (gy a).2])∧El zs (gy a).1∧Below w.heap.size w w':=by
 have hm:=LG
 have hp:=fun w=>Oy xs a eighth w hx
 obtain ⟨es,hes⟩:∃ x,x=aW (bD 256 32 eighth):=⟨_,rfl⟩
 rw [← hes] at hm hp
 have IU:Hid (es.length=32):=Lib.hid (by rw [hes,aH,aI])
 obtain ⟨iL,hiL⟩:∃ x,x=imL:=⟨_,rfl⟩
 have HI:Hid (El iL im):=Lib.hid (by rw [hiL];exact imL_el)
 have HIL:=Lib.hid HI.out.1
 unfold Si at hT
 rw [← hiL] at hT
 have HT:=Lib.hid hT
 have SY:Hid (5 < w.heap.size):=Lib.hid (by rw [hiL] at hT;exact yS hT)
 obtain ⟨x0,hx0⟩:∃ x,x=iB a eighth 256:=⟨_,rfl⟩
 rw [← hx0] at hp
 have hrs:gy a=if aA x0 x0=a then (x0,true) else (aA x0 im,decide (aA (aA x0 im) (aA x0 im)=a)):=by rw [hx0];rfl
 have EW:=Lib.hid hrs
 obtain ⟨ze,iH⟩:∃ zs:List Int,zs=List.replicate 16 0:=⟨_,rfl⟩
 have dM:Hid (∀ w,(zeroValue 98).run Tryd.prog w = .ok (.agg (arr .i64 ze)) w):=Lib.hid (by intro w;rw [iH];exact gF w)
 have dB:Hid (ze.length=16):=Lib.hid (by rw [iH];rfl)
 have HM:=Lib.hid hm
 have HP:=Lib.hid hp
 have HX:=Lib.hid hx
 have iG:=Lib.hid hx.1
 have bN:=Lib.hid (bM.two w (arr .i64 xs) (arr .i64 ze) 98 98)
 clear iH hes hx hm hp hiL hT hx0 hrs
 go_enter Tryd.func82, Tryd.ntmps82
 go_upto_region 1 with (first|((with_reducible refine aS 2 ?_);refine aj rfl 98 rfl _ (dM.out _) ?_))
 generalize ((w.alloc (.cells (arr .i64 xs) 98)).alloc (.cells (arr .i64 ze) 98))=wb at bN ⊢
 go_cut [4] (fun u4 wx=>∃ g x1,u4 = .pointer (some ⟨g,0,none⟩)∧El x1 x0∧bM w wx [(w.heap.size,arr .i64 xs, 98),(w.heap.size+1,arr .i64 ze, 98),(g,arr .i64 x1, 98)])
 case first =>
  have dU:=Lib.hid ((Kept.refl (fun _=>False) wb).drew)
  have dX:=Lib.hid (bN.out.drew)
  refine wp_region_held_drew (S:=(fun w'=>Kept (fun _=>False) wb w')) (by kernel_rfl) (dU.out) (fun hHeld=>?_)
  generalize wb.drew=wd at dU dX hHeld ⊢
  refine' wpAnyH_take (i:=0) (oi:=(⟨some 5,_,_,_,_,none⟩:Oper)) (v:=_) rfl (by kernel_rfl) (by kernel_rfl) (by kernel_rfl) (fun _ _ _ h=>h) (yieldsIf_load_mid (by rfl) _ _ rfl _ _ rfl (xs.map (Value.int .i64)) _ ?Yg Tryd.underlying98 rfl (by rw [List.length_map];exact bI iG.out)) (by assumption) ?DV
  case Yg=>(intro w hSw;(try dsimp only at hSw);exact aM (hSw.blk (bN.out.get 0 rfl) (fun e=>e.elim)) 0 _ (by rw [List.length_map];exact au _ _))
  (try simp only [Act.put,sA,sZ,sS])
  refine wpAnyH_ready (rs:=[1,3]) (by kernel_rfl) (by simp) ?_
  refine AllReadyH.cons (o:=(⟨some 6,_,_,_,_,none⟩:Oper)) rfl (fun K hK=>?_) ?_
  ·go_simp
   go_at_call 94
   refine (HM.out _).mono ?_
   rintro e TF ⟨rfl,zJ⟩
   have qO:=Lib.hid (dX.out.kept zJ)
   have Au:=Lib.hid (dU.out.trans (Kept.of_below zJ))
   clear zJ
   (try dsimp only)
   refine hK.out _ _ (Au.out) (fun hHeld=>?_)
   clear hK K
   (try simp only [Act.put,sA,sZ,sS])
   refine wpAnyH_ready (rs:=[2,3]) (by kernel_rfl) (by simp) ?_
   refine AllReadyH.cons (o:=(⟨some 7,_,_,_,_,none⟩:Oper)) rfl (fun K hK=>?_) ?_
   ·go_simp
    go_at_call 86
    refine (HP.out _).mono ?_
    rintro e TD ⟨z103,rfl,Ls,qG⟩
    have ZX:=Lib.hid Ls
    have Dm:=Lib.hid Ls.1
    clear Ls
    have uK:=Lib.hid (qO.out.kept qG)
    have Dn:=Lib.hid (Au.out.trans (Kept.of_below qG))
    clear qG
    (try dsimp only)
    refine hK.out _ _ (Dn.out) (fun hHeld=>?_)
    clear hK K
    (try simp only [Act.put,sA,sZ,sS])
    refine wpAnyH_ready (rs:=[3]) (by kernel_rfl) (by simp) ?_
    refine AllReadyH.cons (o:=(⟨some 4,_,_,_,_,none⟩:Oper)) rfl (fun K hK=>?_) AllReadyH.nil
    refine bg rfl 98 rfl _ (dM.out _) ?_
    have qN:=Lib.hid (uK.out.alloc (arr .i64 ze) 98)
    have IQ:=Lib.hid (Dn.out.alloc (.cells (arr .i64 ze) 98))
    have HN104:=Lib.hid (show wb.heap.size≤(TD).heap.size from Dn.out.size)
    generalize (TD).heap.size=g104 at qN HN104 ⊢
    generalize (TD).alloc (.cells (arr .i64 ze) 98)=w104 at qN IQ ⊢
    refine hK.out _ _ (IQ.out) (fun hHeld=>?_)
    clear hK K
    (try simp only [Act.put,sA,sZ,sS])
    refine wpAnyH_ready (rs:=[4]) (by kernel_rfl) (by simp) ?_
    refine AllReadyH.cons (o:=(⟨none,_,_,_,_,none⟩:Oper)) rfl (fun K hK=>?_) AllReadyH.nil
    refine aD rfl 98 (.tmp 4) (.tmp 7) rfl (g104) _ _ _ (qN.out.get 2 rfl) rfl rfl (ay _ _ Dm.out dB.out) (cO Dm.out) (av _ _) ?_
    intro w105 Hl CG Vv
    have Dr:=Lib.hid (qN.out.put 2 rfl CG Hl)
    have HK105:=Lib.hid (IQ.out.cK CG (fun i hi e=>absurd hi (by rw [e];exact Nat.not_lt.2 HN104.out)))
    clear Hl CG Vv
    refine hK.out _ _ (HK105.out) (fun hHeld=>?_)
    clear hK K
    (try simp only [Act.put])
    refine wpAnyH_done (by kernel_rfl) ?_ _
    go_wp2_with fail
    go_meet
    exact ⟨_,_,rfl,ZX.out,Dr.out⟩
   refine AllReadyH.cons (o:=(⟨some 4,_,_,_,_,none⟩:Oper)) rfl (fun K hK=>?_) ?_
   ·refine bg rfl 98 rfl _ (dM.out _) ?_
    have Dq:=Lib.hid (qO.out.alloc (arr .i64 ze) 98)
    have HK106:=Lib.hid (Au.out.alloc (.cells (arr .i64 ze) 98))
    have HN106:=Lib.hid (show wb.heap.size≤(TF).heap.size from Au.out.size)
    generalize (TF).heap.size=g106 at Dq HN106 ⊢
    generalize (TF).alloc (.cells (arr .i64 ze) 98)=w106 at Dq HK106 ⊢
    refine hK.out _ _ (HK106.out) (fun hHeld=>?_)
    clear hK K
    (try simp only [Act.put,sA,sZ,sS])
    refine wpAnyH_ready (rs:=[2]) (by kernel_rfl) (by simp) ?_
    refine AllReadyH.cons (o:=(⟨some 7,_,_,_,_,none⟩:Oper)) rfl (fun K hK=>?_) AllReadyH.nil
    go_simp
    go_at_call 86
    refine (HP.out _).mono ?_
    rintro e w107 ⟨z107,rfl,h107,zI⟩
    have HZ107:=Lib.hid h107
    have HL107:=Lib.hid h107.1
    clear h107
    have qM:=Lib.hid (Dq.out.kept zI)
    have IL:=Lib.hid (HK106.out.trans (Kept.of_below zI))
    clear zI
    (try dsimp only)
    refine hK.out _ _ (IL.out) (fun hHeld=>?_)
    clear hK K
    (try simp only [Act.put,sA,sZ,sS])
    refine wpAnyH_ready (rs:=[4]) (by kernel_rfl) (by simp) ?_
    refine AllReadyH.cons (o:=(⟨none,_,_,_,_,none⟩:Oper)) rfl (fun K hK=>?_) AllReadyH.nil
    refine aD rfl 98 (.tmp 4) (.tmp 7) rfl (g106) _ _ _ (qM.out.get 2 rfl) rfl rfl (ay _ _ HL107.out dB.out) (cO HL107.out) (av _ _) ?_
    intro w108 tY CF Vu
    have wV:=Lib.hid (qM.out.put 2 rfl CF tY)
    have HK108:=Lib.hid (IL.out.cK CF (fun i hi e=>absurd hi (by rw [e];exact Nat.not_lt.2 HN106.out)))
    clear tY CF Vu
    refine hK.out _ _ (HK108.out) (fun hHeld=>?_)
    clear hK K
    (try simp only [Act.put])
    refine wpAnyH_done (by kernel_rfl) ?_ _
    go_wp2_with fail
    go_meet
    exact ⟨_,_,rfl,HZ107.out,wV.out⟩
   exact AllReadyH.nil
  refine AllReadyH.cons (o:=(⟨some 4,_,_,_,_,none⟩:Oper)) rfl (fun K hK=>?_) ?_
  ·refine bg rfl 98 rfl _ (dM.out _) ?_
   have Dp:=Lib.hid (dX.out.alloc (arr .i64 ze) 98)
   have HK109:=Lib.hid (dU.out.alloc (.cells (arr .i64 ze) 98))
   have HN109:=Lib.hid (show wb.heap.size≤(wd).heap.size from dU.out.size)
   generalize (wd).heap.size=g109 at Dp HN109 ⊢
   generalize (wd).alloc (.cells (arr .i64 ze) 98)=w109 at Dp HK109 ⊢
   refine hK.out _ _ (HK109.out) (fun hHeld=>?_)
   clear hK K
   (try simp only [Act.put,sA,sZ,sS])
   refine wpAnyH_ready (rs:=[1]) (by kernel_rfl) (by simp) ?_
   refine AllReadyH.cons (o:=(⟨some 6,_,_,_,_,none⟩:Oper)) rfl (fun K hK=>?_) AllReadyH.nil
   go_simp
   go_at_call 94
   refine (HM.out _).mono ?_
   rintro e w110 ⟨rfl,Xh⟩
   have AO:=Lib.hid (Dp.out.kept Xh)
   have HK110:=Lib.hid (HK109.out.trans (Kept.of_below Xh))
   clear Xh
   (try dsimp only)
   refine hK.out _ _ (HK110.out) (fun hHeld=>?_)
   clear hK K
   (try simp only [Act.put,sA,sZ,sS])
   refine wpAnyH_ready (rs:=[2]) (by kernel_rfl) (by simp) ?_
   refine AllReadyH.cons (o:=(⟨some 7,_,_,_,_,none⟩:Oper)) rfl (fun K hK=>?_) AllReadyH.nil
   go_simp
   go_at_call 86
   refine (HP.out _).mono ?_
   rintro e w111 ⟨z111,rfl,h111,CK⟩
   have HZ111:=Lib.hid h111
   have HL111:=Lib.hid h111.1
   clear h111
   have AL:=Lib.hid (AO.out.kept CK)
   have HK111:=Lib.hid (HK110.out.trans (Kept.of_below CK))
   clear CK
   (try dsimp only)
   refine hK.out _ _ (HK111.out) (fun hHeld=>?_)
   clear hK K
   (try simp only [Act.put,sA,sZ,sS])
   refine wpAnyH_ready (rs:=[4]) (by kernel_rfl) (by simp) ?_
   refine AllReadyH.cons (o:=(⟨none,_,_,_,_,none⟩:Oper)) rfl (fun K hK=>?_) AllReadyH.nil
   refine aD rfl 98 (.tmp 4) (.tmp 7) rfl (g109) _ _ _ (AL.out.get 2 rfl) rfl rfl (ay _ _ HL111.out dB.out) (cO HL111.out) (av _ _) ?_
   intro w112 Hg Wd hz112
   have Qb:=Lib.hid (AL.out.put 2 rfl Wd Hg)
   have HK112:=Lib.hid (HK111.out.cK Wd (fun i hi e=>absurd hi (by rw [e];exact Nat.not_lt.2 HN109.out)))
   clear Hg Wd hz112
   refine hK.out _ _ (HK112.out) (fun hHeld=>?_)
   clear hK K
   (try simp only [Act.put])
   refine wpAnyH_done (by kernel_rfl) ?_ _
   go_wp2_with fail
   go_meet
   exact ⟨_,_,rfl,HZ111.out,Qb.out⟩
  exact AllReadyH.nil
 case rest =>
 obtain ⟨wy,rfl⟩:∃ x:World,x=wc:=⟨_,rfl⟩
 obtain ⟨gx,x1,rfl,h1,hb1⟩:=hcut
 have HB1:=Lib.hid hb1
 have HX1:=Lib.hid h1
 have oH:=Lib.hid h1.1
 clear h1 hb1 bN
 go_upto_region 2 with fail
 by_cases hs:aA x0 x0=a
 ·have Z6:=Lib.hid (fun xs ys w h1 h2=>(by have:=oN xs ys (aA x0 x0) a w h1 h2;rw [decide_eq_true hs] at this;exact this:Calls Tryd.prog 95 #[.agg (arr .i64 xs), .agg (arr .i64 ys)] w fun e w'=>e = .returned (.bool true)∧Below w.heap.size w w'))
  have hr:=EW.out
  rw [if_pos hs] at hr
  have HR:=Lib.hid hr
  clear hs hr
  have dU:=Lib.hid ((Kept.refl (fun _=>False) wy).drew)
  have dX:=Lib.hid (HB1.out.drew)
  refine wp_region_held_drew (S:=(fun w'=>Kept (fun _=>False) wy w')) (by kernel_rfl) (dU.out) (fun hHeld=>?_)
  generalize wy.drew=wd at dU dX hHeld ⊢
  refine' wpAnyH_take (i:=0) (oi:=(⟨some 8,_,_,_,_,none⟩:Oper)) (v:=_) rfl (by kernel_rfl) (by kernel_rfl) (by kernel_rfl) (fun _ _ _ h=>h) (yieldsIf_load_mid (by rfl) _ _ rfl _ _ rfl (x1.map (Value.int .i64)) _ ?hS113 Tryd.underlying98 rfl (by rw [List.length_map];exact bI oH.out)) (by assumption) ?rest113
  case hS113=>(intro w hSw;(try dsimp only at hSw);exact aM (hSw.blk (HB1.out.get 2 rfl) (fun e=>e.elim)) 0 _ (by rw [List.length_map];exact au _ _))
  (try simp only [Act.put,sA,sZ,sS])
  refine' wpAnyH_take (i:=1) (oi:=(⟨some 9,_,_,_,_,none⟩:Oper)) (v:=_) rfl (by kernel_rfl) (by kernel_rfl) (by kernel_rfl) (fun _ _ _ h=>h) (yieldsIf_load_mid (by rfl) _ _ rfl _ _ rfl (x1.map (Value.int .i64)) _ ?hS114 Tryd.underlying98 rfl (by rw [List.length_map];exact bI oH.out)) (by assumption) ?rest114
  case hS114=>(intro w hSw;(try dsimp only at hSw);exact aM (hSw.blk (HB1.out.get 2 rfl) (fun e=>e.elim)) 0 _ (by rw [List.length_map];exact au _ _))
  (try simp only [Act.put,sA,sZ,sS])
  refine' wpAnyH_take (i:=3) (oi:=(⟨some 11,_,_,_,_,none⟩:Oper)) (v:=_) rfl (by kernel_rfl) (by kernel_rfl) (by kernel_rfl) (fun _ _ _ h=>h) (yieldsIf_load_mid (by rfl) _ _ rfl _ _ rfl (xs.map (Value.int .i64)) _ ?hS115 Tryd.underlying98 rfl (by rw [List.length_map];exact bI iG.out)) (by assumption) ?Ov
  case hS115=>(intro w hSw;(try dsimp only at hSw);exact aM (hSw.blk (HB1.out.get 0 rfl) (fun e=>e.elim)) 0 _ (by rw [List.length_map];exact au _ _))
  (try simp only [Act.put,sA,sZ,sS])
  refine wpAnyH_ready (rs:=[2]) (by kernel_rfl) (by simp) ?_
  refine AllReadyH.cons (o:=(⟨some 10,_,_,_,_,none⟩:Oper)) rfl (fun K hK=>?_) AllReadyH.nil
  go_simp
  go_at_call 68
  refine (bJ _ _ _ _ _ HX1.out HX1.out).mono ?_
  rintro e w116 ⟨z116,rfl,h116,Xg⟩
  have HZ116:=Lib.hid h116
  have HL116:=Lib.hid h116.1
  clear h116
  have AJ:=Lib.hid (dX.out.kept Xg)
  have HK116:=Lib.hid (dU.out.trans (Kept.of_below Xg))
  clear Xg
  (try dsimp only)
  refine hK.out _ _ (HK116.out) (fun hHeld=>?_)
  clear hK K
  (try simp only [Act.put,sA,sZ,sS])
  refine wpAnyH_ready (rs:=[4]) (by kernel_rfl) (by simp) ?_
  refine AllReadyH.cons (o:=(⟨some 12,_,_,_,_,none⟩:Oper)) rfl (fun K hK=>?_) AllReadyH.nil
  go_simp
  go_at_call 95
  refine (Z6.out _ _ _ HZ116.out HX.out).mono ?_
  rintro e w117 ⟨rfl,CJ⟩
  have P9:=Lib.hid (AJ.out.kept CJ)
  have HK117:=Lib.hid (HK116.out.trans (Kept.of_below CJ))
  clear CJ
  (try dsimp only)
  refine hK.out _ _ (HK117.out) (fun hHeld=>?_)
  clear hK K
  (try simp only [Act.put,sA,sZ,sS])
  refine wpAnyH_done (by kernel_rfl) ?_ _
  have qK:=P9
  clear HB1
  (try simp only [Exit.then])
  go_wp2_with (first|((with_reducible refine aS 13 ?_);refine ak rfl 98 _ rfl (gx) 0 _ 98 (0,0) _ (qK.out.get 2 rfl) rfl .i64 x1 (au _ _) Tryd.underlying98 rfl (bI oH.out) ?_)|((with_reducible refine aT 2 ?_);refine ah rfl 98 _ _ rfl (w.heap.size+1) _ _ 98 (qK.out.get 1 rfl) rfl rfl (ay _ _ oH.out dB.out) (cO oH.out) (av _ _) ?_;intro w8 jH nU qZ;have fM:=Lib.hid (qK.out.put 1 rfl nU jH);clear jH nU qZ))
  (try simp only [Exit.inBlock,Exit.then])
  refine bodyPost_ret (aP rfl _ _ (w.heap.size+1) 98 _ (0,0) _ _ rfl (fM.out.get 1 rfl) Tryd.underlying98 rfl (cO oH.out) rfl) rfl ?_
  refine ⟨_,?_,by rw [HR.out];exact HX1.out,fM.out.below⟩
  rw [HR.out];rfl
 ·have Z6:=Lib.hid (fun xs ys w h1 h2=>(by have:=oN xs ys (aA x0 x0) a w h1 h2;rw [decide_eq_false hs] at this;exact this:Calls Tryd.prog 95 #[.agg (arr .i64 xs), .agg (arr .i64 ys)] w fun e w'=>e = .returned (.bool false)∧Below w.heap.size w w'))
  have hr:=EW.out
  rw [if_neg hs] at hr
  have HR:=Lib.hid hr
  clear hs hr
  have dU:=Lib.hid ((Kept.refl (fun _=>False) wy).drew)
  have dX:=Lib.hid (HB1.out.drew)
  refine wp_region_held_drew (S:=(fun w'=>Kept (fun _=>False) wy w')) (by kernel_rfl) (dU.out) (fun hHeld=>?_)
  generalize wy.drew=wd at dU dX hHeld ⊢
  refine' wpAnyH_take (i:=0) (oi:=(⟨some 8,_,_,_,_,none⟩:Oper)) (v:=_) rfl (by kernel_rfl) (by kernel_rfl) (by kernel_rfl) (fun _ _ _ h=>h) (yieldsIf_load_mid (by rfl) _ _ rfl _ _ rfl (x1.map (Value.int .i64)) _ ?hS118 Tryd.underlying98 rfl (by rw [List.length_map];exact bI oH.out)) (by assumption) ?Ou
  case hS118=>(intro w hSw;(try dsimp only at hSw);exact aM (hSw.blk (HB1.out.get 2 rfl) (fun e=>e.elim)) 0 _ (by rw [List.length_map];exact au _ _))
  (try simp only [Act.put,sA,sZ,sS])
  refine' wpAnyH_take (i:=1) (oi:=(⟨some 9,_,_,_,_,none⟩:Oper)) (v:=_) rfl (by kernel_rfl) (by kernel_rfl) (by kernel_rfl) (fun _ _ _ h=>h) (yieldsIf_load_mid (by rfl) _ _ rfl _ _ rfl (x1.map (Value.int .i64)) _ ?hS119 Tryd.underlying98 rfl (by rw [List.length_map];exact bI oH.out)) (by assumption) ?Ot
  case hS119=>(intro w hSw;(try dsimp only at hSw);exact aM (hSw.blk (HB1.out.get 2 rfl) (fun e=>e.elim)) 0 _ (by rw [List.length_map];exact au _ _))
  (try simp only [Act.put,sA,sZ,sS])
  refine' wpAnyH_take (i:=3) (oi:=(⟨some 11,_,_,_,_,none⟩:Oper)) (v:=_) rfl (by kernel_rfl) (by kernel_rfl) (by kernel_rfl) (fun _ _ _ h=>h) (yieldsIf_load_mid (by rfl) _ _ rfl _ _ rfl (xs.map (Value.int .i64)) _ ?hS120 Tryd.underlying98 rfl (by rw [List.length_map];exact bI iG.out)) (by assumption) ?Oq
  case hS120=>(intro w hSw;(try dsimp only at hSw);exact aM (hSw.blk (HB1.out.get 0 rfl) (fun e=>e.elim)) 0 _ (by rw [List.length_map];exact au _ _))
  (try simp only [Act.put,sA,sZ,sS])
  refine wpAnyH_ready (rs:=[2]) (by kernel_rfl) (by simp) ?_
  refine AllReadyH.cons (o:=(⟨some 10,_,_,_,_,none⟩:Oper)) rfl (fun K hK=>?_) AllReadyH.nil
  go_simp
  go_at_call 68
  refine (bJ _ _ _ _ _ HX1.out HX1.out).mono ?_
  rintro e w121 ⟨z121,rfl,h121,Xf⟩
  have HZ121:=Lib.hid h121
  have HL121:=Lib.hid h121.1
  clear h121
  have HB121:=Lib.hid (dX.out.kept Xf)
  have HK121:=Lib.hid (dU.out.trans (Kept.of_below Xf))
  clear Xf
  (try dsimp only)
  refine hK.out _ _ (HK121.out) (fun hHeld=>?_)
  clear hK K
  (try simp only [Act.put,sA,sZ,sS])
  refine wpAnyH_ready (rs:=[4]) (by kernel_rfl) (by simp) ?_
  refine AllReadyH.cons (o:=(⟨some 12,_,_,_,_,none⟩:Oper)) rfl (fun K hK=>?_) AllReadyH.nil
  go_simp
  go_at_call 95
  refine (Z6.out _ _ _ HZ121.out HX.out).mono ?_
  rintro e w122 ⟨rfl,Xe⟩
  have HB122:=Lib.hid (HB121.out.kept Xe)
  have HK122:=Lib.hid (HK121.out.trans (Kept.of_below Xe))
  clear Xe
  (try dsimp only)
  refine hK.out _ _ (HK122.out) (fun hHeld=>?_)
  clear hK K
  (try simp only [Act.put,sA,sZ,sS])
  refine wpAnyH_done (by kernel_rfl) ?_ _
  have qK:=HB122
  clear HB1
  (try simp only [Exit.then])
  have HTb:=Lib.hid (bA HT.out qK.out.below)
  obtain ⟨bb,hbb⟩:∃ b,b=decide (aA (aA x0 im) (aA x0 im)=a):=⟨_,rfl⟩
  rw [← hbb] at HR
  have HSM2:=Lib.hid (fun xs ys w h1 h2=>(by have:=oN xs ys (aA (aA x0 im) (aA x0 im)) a w h1 h2;rw [← hbb] at this;exact this:Calls Tryd.prog 95 #[.agg (arr .i64 xs), .agg (arr .i64 ys)] w fun e w'=>e = .returned (.bool bb)∧Below w.heap.size w w'))
  clear hbb
  go_upto_region 5 with (first|((with_reducible refine aS 14 ?_);refine ak rfl 98 _ rfl (gx) (0) _ 98 (0,0) _ (qK.out.get 2 rfl) rfl .i64 x1 (au _ _) Tryd.underlying98 rfl (bI oH.out) ?_)|((with_reducible refine aS 15 ?_);refine wpList_load_mid rfl 98 _ rfl 5 0 rfl (iL.map (Value.int .i64)) _ (HTb.out) Tryd.underlying98 rfl (by rw [List.length_map];exact bI HIL.out) ?_;(try (show wpList _ _ _ _ (Act.put _ _ (.agg (arr .i64 iL))) _)))|((with_reducible show Calls _ 68 #[.agg _, .agg _] _ _);go_at_call 68; refine (bJ _ _ _ _ _ HX1.out HI.out).mono ?_;rintro e w123 ⟨z123,rfl,h123,hb123⟩;have ZM:=Lib.hid h123;have wT:=Lib.hid h123.1;clear h123;have HB123:=Lib.hid (qK.out.kept hb123);clear hb123)|((with_reducible refine aT 4 (x:=(Operand.tmp 16)) ?_);refine ah rfl 98 _ _ rfl (gx) _ _ 98 (HB123.out.get 2 rfl) rfl rfl (ay _ _ wT.out oH.out) (cO wT.out) (av _ _) ?_;intro w124 hb124 hk124 hz124;have uJ:=Lib.hid (HB123.out.put 2 rfl hk124 hb124);clear hb124 hk124 hz124))
  have dU:=Lib.hid ((Kept.refl (fun x=>x=w.heap.size+1) w124).drew)
  have dX:=Lib.hid (uJ.out.drew)
  refine wp_region_held_drew (S:=(fun w'=>Kept (fun x=>x=w.heap.size+1) w124 w')) (by kernel_rfl) (dU.out) (fun hHeld=>?_)
  generalize w124.drew=wd at dU dX hHeld ⊢
  refine' wpAnyH_take (i:=0) (oi:=(⟨some 17,_,_,_,_,none⟩:Oper)) (v:=_) rfl (by kernel_rfl) (by kernel_rfl) (by kernel_rfl) (fun _ _ _ h=>h) (yieldsIf_load_mid (by rfl) _ _ rfl _ _ rfl (z123.map (Value.int .i64)) _ ?hS125 Tryd.underlying98 rfl (by rw [List.length_map];exact bI wT.out)) (by assumption) ?rest125
  case hS125=>(intro w hSw;(try dsimp only at hSw);exact aM (hSw.blk (uJ.out.get 2 rfl) (uJ.out.ne 2 1 rfl rfl (by decide))) 0 _ (by rw [List.length_map];exact au _ _))
  (try simp only [Act.put,sA,sZ,sS])
  refine' wpAnyH_take (i:=1) (oi:=(⟨some 18,_,_,_,_,none⟩:Oper)) (v:=_) rfl (by kernel_rfl) (by kernel_rfl) (by kernel_rfl) (fun _ _ _ h=>h) (yieldsIf_load_mid (by rfl) _ _ rfl _ _ rfl (z123.map (Value.int .i64)) _ ?hS126 Tryd.underlying98 rfl (by rw [List.length_map];exact bI wT.out)) (by assumption) ?Oo
  case hS126=>(intro w hSw;(try dsimp only at hSw);exact aM (hSw.blk (uJ.out.get 2 rfl) (uJ.out.ne 2 1 rfl rfl (by decide))) 0 _ (by rw [List.length_map];exact au _ _))
  (try simp only [Act.put,sA,sZ,sS])
  refine' wpAnyH_take (i:=2) (oi:=(⟨some 19,_,_,_,_,none⟩:Oper)) (v:=_) rfl (by kernel_rfl) (by kernel_rfl) (by kernel_rfl) (fun _ _ _ h=>h) (yieldsIf_load_mid (by rfl) _ _ rfl _ _ rfl (z123.map (Value.int .i64)) _ ?hS127 Tryd.underlying98 rfl (by rw [List.length_map];exact bI wT.out)) (by assumption) ?Om
  case hS127=>(intro w hSw;(try dsimp only at hSw);exact aM (hSw.blk (uJ.out.get 2 rfl) (uJ.out.ne 2 1 rfl rfl (by decide))) 0 _ (by rw [List.length_map];exact au _ _))
  (try simp only [Act.put,sA,sZ,sS])
  refine' wpAnyH_take (i:=4) (oi:=(⟨some 21,_,_,_,_,none⟩:Oper)) (v:=_) rfl (by kernel_rfl) (by kernel_rfl) (by kernel_rfl) (fun _ _ _ h=>h) (yieldsIf_load_mid (by rfl) _ _ rfl _ _ rfl (xs.map (Value.int .i64)) _ ?hS128 Tryd.underlying98 rfl (by rw [List.length_map];exact bI iG.out)) (by assumption) ?Ol
  case hS128=>(intro w hSw;(try dsimp only at hSw);exact aM (hSw.blk (uJ.out.get 0 rfl) (uJ.out.ne 0 1 rfl rfl (by decide))) 0 _ (by rw [List.length_map];exact au _ _))
  (try simp only [Act.put,sA,sZ,sS])
  refine wpAnyH_ready (rs:=[3]) (by kernel_rfl) (by simp) ?_
  refine AllReadyH.cons (o:=(⟨some 20,_,_,_,_,none⟩:Oper)) rfl (fun K hK=>?_) AllReadyH.nil
  go_simp
  go_at_call 68
  refine (bJ _ _ _ _ _ ZM.out ZM.out).mono ?_
  rintro e w129 ⟨z129,rfl,h129,Xd⟩
  have HZ129:=Lib.hid h129
  have HL129:=Lib.hid h129.1
  clear h129
  have HB129:=Lib.hid (dX.out.kept Xd)
  have HK129:=Lib.hid (dU.out.trans (Kept.of_below Xd))
  clear Xd
  (try dsimp only)
  refine hK.out _ _ (HK129.out) (fun hHeld=>?_)
  clear hK K
  (try simp only [Act.put,sA,sZ,sS])
  refine wpAnyH_ready (rs:=[5]) (by kernel_rfl) (by simp) ?_
  refine AllReadyH.cons (o:=(⟨some 22,_,_,_,_,none⟩:Oper)) rfl (fun K hK=>?_) AllReadyH.nil
  go_simp
  go_at_call 95
  refine (HSM2.out _ _ _ HZ129.out HX.out).mono ?_
  rintro e w130 ⟨rfl,Xc⟩
  have HB130:=Lib.hid (HB129.out.kept Xc)
  have HK130:=Lib.hid (HK129.out.trans (Kept.of_below Xc))
  clear Xc
  (try dsimp only)
  refine hK.out _ _ (HK130.out) (fun hHeld=>?_)
  clear hK K
  (try simp only [Act.put,sA,sZ,sS])
  refine wpAnyH_ready (rs:=[6]) (by kernel_rfl) (by simp) ?_
  refine AllReadyH.cons (o:=(⟨none,_,_,_,_,none⟩:Oper)) rfl (fun K hK=>?_) AllReadyH.nil
  refine aD rfl 98 (.tmp 2) (.tmp 17) rfl (w.heap.size+1) _ _ _ (HB130.out.get 1 rfl) rfl rfl (ay _ _ wT.out dB.out) (cO wT.out) (av _ _) ?_
  intro w131 hb131 V9 hz131
  have HB131:=Lib.hid (HB130.out.put 1 rfl V9 hb131)
  have HK131:=Lib.hid (HK130.out.trans V9)
  clear hb131 V9 hz131
  refine hK.out _ _ (HK131.out) (fun hHeld=>?_)
  clear hK K
  (try simp only [Act.put])
  refine wpAnyH_take (i:=7) (oi:=(⟨some 3,_,_,_,_,none⟩:Oper)) (v:=?v132) rfl (by kernel_rfl) (by kernel_rfl) (by kernel_rfl) (fun _ _ _ h=>h) (Or.inl ⟨by rfl,?Vw⟩) (by assumption) ?rest132
  case Vw=>(intro w hSw;(try dsimp only at hSw);go_simp;try (with_reducible rfl))
  (try simp only [Act.put,sA,sZ,sS])
  refine wpAnyH_done (by kernel_rfl) ?_ _
  have sD:=HB131
  have SA:=wT
  have uD:=ZM
  (try simp only [Exit.then])
  go_wp2_with fail
  (try simp only [Exit.inBlock,Exit.then])
  refine bodyPost_ret (aP rfl _ _ (w.heap.size+1) 98 _ (0,0) _ _ rfl (sD.out.get 1 rfl) Tryd.underlying98 rfl (cO SA.out) rfl) rfl ?_
  refine ⟨_,?_,by rw [HR.out];exact uD.out,sD.out.below⟩
  rw [HR.out];rfl
end Go.Proofs.YthdgbgleklkaiaaDoor.Rd
