/- The document's root. Condition: as each theorem says. -/

import Derived.Test.YthdgbgleklkaiaaGreatDoorQc11
open Go.Lib renaming hid→abC
open List renaming length_map→abD
set_option linter.unusedSimpArgs false
set_option linter.unusedVariables false
set_option maxRecDepth 100000
set_option maxHeartbeats 16000000
namespace Go.Proofs.YthdgbgleklkaiaaGreatDoor.Rd
open Go.RowKit Lm Fp
def imL:List Int:=[0xa0b0,0x4a0e,0x1b27,0xc4ee,0xe478,0xad2f,0x1806,0x2f43,0xd7a7,0x3dfb,0x99,0x2b4d,0xdf0b,0x4fc1,0x2480,0x2b83]
theorem imL_el:El imL im:=by refine ⟨rfl,by decide +kernel,by decide +kernel⟩
def UA (w:World):Prop:=w.rangeAt 6 0 (imL.map (Value.int .i64))
theorem bC {a b:World} {g o:Nat} {xs:List Value} (h:a.rangeAt g o xs) (k:Below a.heap.size a b):b.rangeAt g o xs:=kZ h (Kept.of_below k (T:=fun _=>False)) id
theorem zJ {a:World} {g o:Nat} {x:Value} {xs:List Value} (h:a.rangeAt g o (x :: xs)):g < a.heap.size:=World.block_lt_of_cell? _ _ (h 0 x rfl)
theorem Wq (xs:List Int) (a:Nat) (w:World) (hx:El xs a) (hT:UA w) :
  Calls Tryz.prog 160 #[.agg (arr .i64 xs)] w fun e w'=>∃ zs,e = .returned (.tuple #[.agg (arr .i64 zs), .bool (gK a).2])∧El zs (gK a).1∧Below w.heap.size w w':=by
 have hm:=Nh
 have hp:=fun w=>Qa xs a eighth w hx
 obtain ⟨es,hes⟩:∃ x,x=aW (bD 256 32 eighth):=⟨_,rfl⟩
 rw [← hes] at hm hp
 have J7:Hid (es.length=32):=abC (by rw [hes,aG,aK])
 obtain ⟨iL,hiL⟩:∃ x,x=imL:=⟨_,rfl⟩
 have HI:Hid (El iL im):=abC (by rw [hiL];exact imL_el)
 have HIL:=abC HI.out.1
 unfold UA at hT
 rw [← hiL] at hT
 have HT:=abC hT
 have U3:Hid (6 < w.heap.size):=abC (by rw [hiL] at hT;exact zJ hT)
 obtain ⟨x0,hx0⟩:∃ x,x=iI a eighth 256:=⟨_,rfl⟩
 rw [← hx0] at hp
 have hrs:gK a=if aA x0 x0=a then (x0,true) else (aA x0 im,decide (aA (aA x0 im) (aA x0 im)=a)):=by rw [hx0];rfl
 have CV:=abC hrs
 obtain ⟨ze,iO,dO,dG⟩:=zN gM
 have HM:=abC hm
 have HP:=abC hp
 have HX:=abC hx
 have jc:=abC hx.1
 have bW:=abC (bO.two w (arr .i64 xs) (arr .i64 ze) 125 125)
 clear iO hes hx hm hp hiL hT hx0 hrs
 go_enter Tryz.func160, Tryz.ntmps160
 go_upto_region 1 with (first|((with_reducible refine aS 2 ?_);refine ah rfl 125 rfl _ (dO.out _) ?_))
 generalize ((w.alloc (.cells (arr .i64 xs) 125)).alloc (.cells (arr .i64 ze) 125))=wb at bW ⊢
 go_cut [4] (fun u4 wx=>∃ g x1,u4 = .pointer (some ⟨g,0,none⟩)∧El x1 x0∧bO w wx [(w.heap.size,arr .i64 xs, 125),(w.heap.size+1,arr .i64 ze, 125),(g,arr .i64 x1, 125)])
 case first =>
  have d9:=abC ((Kept.refl (fun _=>False) wb).drew)
  have eF:=abC (bW.out.drew)
  refine wp_region_held_drew (S:=(fun w'=>Kept (fun _=>False) wb w')) (by kernel_rfl) (d9.out) (fun hHeld=>?_)
  generalize wb.drew=wd at d9 eF hHeld ⊢
  refine' wpAnyH_take (i:=0) (oi:=(⟨some 5,_,_,_,_,none⟩:Oper)) (v:=_) rfl (by kernel_rfl) (by kernel_rfl) (by kernel_rfl) (fun _ _ _ h=>h) (yieldsIf_load_mid (by rfl) _ _ rfl _ _ rfl (xs.map (Value.int .i64)) _ ?Y4 Tryz.underlying125 rfl (by rw [abD];exact bK jc.out)) (by assumption) ?qw
  case Y4=>(intro w hSw;(try dsimp only at hSw);exact aO (hSw.blk (bW.out.get 0 rfl) (fun e=>e.elim)) 0 _ (by rw [abD];exact aj _ _))
  (try simp only [Act.put,sA,sZ,sS])
  refine wpAnyH_ready (rs:=[1,3]) (by kernel_rfl) (by simp) ?_
  refine AllReadyH.cons (o:=(⟨some 6,_,_,_,_,none⟩:Oper)) rfl (fun K hK=>?_) ?_
  ·go_simp
   go_at_call 195
   refine (HM.out _).mono ?_
   rintro e Vt ⟨rfl,AO⟩
   have Cc:=abC (eF.out.kept AO)
   have BL:=abC (d9.out.trans (Kept.of_below AO))
   clear AO
   (try dsimp only)
   refine hK.out _ _ (BL.out) (fun hHeld=>?_)
   clear hK K
   (try simp only [Act.put,sA,sZ,sS])
   refine wpAnyH_ready (rs:=[2,3]) (by kernel_rfl) (by simp) ?_
   refine AllReadyH.cons (o:=(⟨some 7,_,_,_,_,none⟩:Oper)) rfl (fun K hK=>?_) ?_
   ·go_simp
    go_at_call 177
    refine (HP.out _).mono ?_
    rintro e Vs ⟨z103,rfl,M8,AL⟩
    have aaR:=abC M8
    have Eo:=abC M8.1
    clear M8
    have uJ:=abC (Cc.out.kept AL)
    have Ep:=abC (BL.out.trans (Kept.of_below AL))
    clear AL
    (try dsimp only)
    refine hK.out _ _ (Ep.out) (fun hHeld=>?_)
    clear hK K
    (try simp only [Act.put,sA,sZ,sS])
    refine pR 3 ⟨some 4,_,_,_,_,none⟩ (fun K hK=>?_)
    refine bA rfl 125 rfl _ (dO.out _) ?_
    have uI:=abC (uJ.out.alloc (arr .i64 ze) 125)
    have J6:=abC (Ep.out.alloc (.cells (arr .i64 ze) 125))
    have HN104:=abC (show wb.heap.size≤(Vs).heap.size from Ep.out.size)
    generalize (Vs).heap.size=g104 at uI HN104 ⊢
    generalize (Vs).alloc (.cells (arr .i64 ze) 125)=w104 at uI J6 ⊢
    refine hK.out _ _ (J6.out) (fun hHeld=>?_)
    clear hK K
    (try simp only [Act.put,sA,sZ,sS])
    refine pR 4 ⟨none,_,_,_,_,none⟩ (fun K hK=>?_)
    refine aI rfl 125 (.tmp 4) (.tmp 7) rfl (g104) _ _ _ (uI.out.get 2 rfl) rfl rfl (av _ _ Eo.out dG.out) (dx Eo.out) (ak _ _) ?_
    intro w105 hb105 Ye hz105
    have Ev:=abC (uI.out.put 2 rfl Ye hb105)
    have HK105:=abC (J6.out.bS Ye (fun i hi e=>absurd hi (by rw [e];exact Nat.not_lt.2 HN104.out)))
    clear hb105 Ye hz105
    refine hK.out _ _ (HK105.out) (fun hHeld=>?_)
    clear hK K
    (try simp only [Act.put])
    refine wpAnyH_done (by kernel_rfl) ?_ _
    go_wp2_with fail
    go_meet
    exact ⟨_,_,rfl,aaR.out,Ev.out⟩
   refine AllReadyH.cons (o:=(⟨some 4,_,_,_,_,none⟩:Oper)) rfl (fun K hK=>?_) ?_
   ·refine bA rfl 125 rfl _ (dO.out _) ?_
    have Eu:=abC (Cc.out.alloc (arr .i64 ze) 125)
    have abA:=abC (BL.out.alloc (.cells (arr .i64 ze) 125))
    have HN106:=abC (show wb.heap.size≤(Vt).heap.size from BL.out.size)
    generalize (Vt).heap.size=g106 at Eu HN106 ⊢
    generalize (Vt).alloc (.cells (arr .i64 ze) 125)=w106 at Eu abA ⊢
    refine hK.out _ _ (abA.out) (fun hHeld=>?_)
    clear hK K
    (try simp only [Act.put,sA,sZ,sS])
    refine pR 2 ⟨some 7,_,_,_,_,none⟩ (fun K hK=>?_)
    go_simp
    go_at_call 177
    refine (HP.out _).mono ?_
    rintro e w107 ⟨z107,rfl,h107,AJ⟩
    have HZ107:=abC h107
    have HL107:=abC h107.1
    clear h107
    have BZ:=abC (Eu.out.kept AJ)
    have J5:=abC (abA.out.trans (Kept.of_below AJ))
    clear AJ
    (try dsimp only)
    refine hK.out _ _ (J5.out) (fun hHeld=>?_)
    clear hK K
    (try simp only [Act.put,sA,sZ,sS])
    refine pR 4 ⟨none,_,_,_,_,none⟩ (fun K hK=>?_)
    refine aI rfl 125 (.tmp 4) (.tmp 7) rfl (g106) _ _ _ (BZ.out.get 2 rfl) rfl rfl (av _ _ HL107.out dG.out) (dx HL107.out) (ak _ _) ?_
    intro w108 DK Yd hz108
    have xC:=abC (BZ.out.put 2 rfl Yd DK)
    have aaZ:=abC (J5.out.bS Yd (fun i hi e=>absurd hi (by rw [e];exact Nat.not_lt.2 HN106.out)))
    clear DK Yd hz108
    refine hK.out _ _ (aaZ.out) (fun hHeld=>?_)
    clear hK K
    (try simp only [Act.put])
    refine wpAnyH_done (by kernel_rfl) ?_ _
    go_wp2_with fail
    go_meet
    exact ⟨_,_,rfl,HZ107.out,xC.out⟩
   exact AllReadyH.nil
  refine AllReadyH.cons (o:=(⟨some 4,_,_,_,_,none⟩:Oper)) rfl (fun K hK=>?_) ?_
  ·refine bA rfl 125 rfl _ (dO.out _) ?_
   have Et:=abC (eF.out.alloc (arr .i64 ze) 125)
   have aaY:=abC (d9.out.alloc (.cells (arr .i64 ze) 125))
   have HN109:=abC (show wb.heap.size≤(wd).heap.size from d9.out.size)
   generalize (wd).heap.size=g109 at Et HN109 ⊢
   generalize (wd).alloc (.cells (arr .i64 ze) 125)=w109 at Et aaY ⊢
   refine hK.out _ _ (aaY.out) (fun hHeld=>?_)
   clear hK K
   (try simp only [Act.put,sA,sZ,sS])
   refine pR 1 ⟨some 6,_,_,_,_,none⟩ (fun K hK=>?_)
   go_simp
   go_at_call 195
   refine (HM.out _).mono ?_
   rintro e w110 ⟨rfl,YP⟩
   have Rv:=abC (Et.out.kept YP)
   have HK110:=abC (aaY.out.trans (Kept.of_below YP))
   clear YP
   (try dsimp only)
   refine hK.out _ _ (HK110.out) (fun hHeld=>?_)
   clear hK K
   (try simp only [Act.put,sA,sZ,sS])
   refine pR 2 ⟨some 7,_,_,_,_,none⟩ (fun K hK=>?_)
   go_simp
   go_at_call 177
   refine (HP.out _).mono ?_
   rintro e w111 ⟨z111,rfl,h111,YO⟩
   have HZ111:=abC h111
   have HL111:=abC h111.1
   clear h111
   have BU:=abC (Rv.out.kept YO)
   have HK111:=abC (HK110.out.trans (Kept.of_below YO))
   clear YO
   (try dsimp only)
   refine hK.out _ _ (HK111.out) (fun hHeld=>?_)
   clear hK K
   (try simp only [Act.put,sA,sZ,sS])
   refine pR 4 ⟨none,_,_,_,_,none⟩ (fun K hK=>?_)
   refine aI rfl 125 (.tmp 4) (.tmp 7) rfl (g109) _ _ _ (BU.out.get 2 rfl) rfl rfl (av _ _ HL111.out dG.out) (dx HL111.out) (ak _ _) ?_
   intro w112 hb112 Yc hz112
   have Ru:=abC (BU.out.put 2 rfl Yc hb112)
   have HK112:=abC (HK111.out.bS Yc (fun i hi e=>absurd hi (by rw [e];exact Nat.not_lt.2 HN109.out)))
   clear hb112 Yc hz112
   refine hK.out _ _ (HK112.out) (fun hHeld=>?_)
   clear hK K
   (try simp only [Act.put])
   refine wpAnyH_done (by kernel_rfl) ?_ _
   go_wp2_with fail
   go_meet
   exact ⟨_,_,rfl,HZ111.out,Ru.out⟩
  exact AllReadyH.nil
 case rest =>
 obtain ⟨wy,rfl⟩:∃ x:World,x=wc:=⟨_,rfl⟩
 obtain ⟨gx,x1,rfl,h1,hb1⟩:=hcut
 have HB1:=abC hb1
 have HX1:=abC h1
 have oH:=abC h1.1
 clear h1 hb1 bW
 go_upto_region 2 with fail
 by_cases hs:aA x0 x0=a
 ·have UJ:=abC (fun xs ys w h1 h2=>(by have:=kY xs ys (aA x0 x0) a w h1 h2;rw [decide_eq_true hs] at this;exact this:Calls Tryz.prog 196 #[.agg (arr .i64 xs), .agg (arr .i64 ys)] w fun e w'=>e = .returned (.bool true)∧Below w.heap.size w w'))
  have hr:=CV.out
  rw [if_pos hs] at hr
  have HR:=abC hr
  clear hs hr
  have d9:=abC ((Kept.refl (fun _=>False) wy).drew)
  have eF:=abC (HB1.out.drew)
  refine wp_region_held_drew (S:=(fun w'=>Kept (fun _=>False) wy w')) (by kernel_rfl) (d9.out) (fun hHeld=>?_)
  generalize wy.drew=wd at d9 eF hHeld ⊢
  refine' wpAnyH_take (i:=0) (oi:=(⟨some 8,_,_,_,_,none⟩:Oper)) (v:=_) rfl (by kernel_rfl) (by kernel_rfl) (by kernel_rfl) (fun _ _ _ h=>h) (yieldsIf_load_mid (by rfl) _ _ rfl _ _ rfl (x1.map (Value.int .i64)) _ ?hS113 Tryz.underlying125 rfl (by rw [abD];exact bK oH.out)) (by assumption) ?E9
  case hS113=>(intro w hSw;(try dsimp only at hSw);exact aO (hSw.blk (HB1.out.get 2 rfl) (fun e=>e.elim)) 0 _ (by rw [abD];exact aj _ _))
  (try simp only [Act.put,sA,sZ,sS])
  refine' wpAnyH_take (i:=1) (oi:=(⟨some 9,_,_,_,_,none⟩:Oper)) (v:=_) rfl (by kernel_rfl) (by kernel_rfl) (by kernel_rfl) (fun _ _ _ h=>h) (yieldsIf_load_mid (by rfl) _ _ rfl _ _ rfl (x1.map (Value.int .i64)) _ ?hS114 Tryz.underlying125 rfl (by rw [abD];exact bK oH.out)) (by assumption) ?E8
  case hS114=>(intro w hSw;(try dsimp only at hSw);exact aO (hSw.blk (HB1.out.get 2 rfl) (fun e=>e.elim)) 0 _ (by rw [abD];exact aj _ _))
  (try simp only [Act.put,sA,sZ,sS])
  refine' wpAnyH_take (i:=3) (oi:=(⟨some 11,_,_,_,_,none⟩:Oper)) (v:=_) rfl (by kernel_rfl) (by kernel_rfl) (by kernel_rfl) (fun _ _ _ h=>h) (yieldsIf_load_mid (by rfl) _ _ rfl _ _ rfl (xs.map (Value.int .i64)) _ ?hS115 Tryz.underlying125 rfl (by rw [abD];exact bK jc.out)) (by assumption) ?yt
  case hS115=>(intro w hSw;(try dsimp only at hSw);exact aO (hSw.blk (HB1.out.get 0 rfl) (fun e=>e.elim)) 0 _ (by rw [abD];exact aj _ _))
  (try simp only [Act.put,sA,sZ,sS])
  refine pR 2 ⟨some 10,_,_,_,_,none⟩ (fun K hK=>?_)
  go_simp
  go_at_call 132
  refine (bM _ _ _ _ _ HX1.out HX1.out).mono ?_
  rintro e w116 ⟨z116,rfl,h116,YN⟩
  have HZ116:=abC h116
  have HL116:=abC h116.1
  clear h116
  have Rs:=abC (eF.out.kept YN)
  have HK116:=abC (d9.out.trans (Kept.of_below YN))
  clear YN
  (try dsimp only)
  refine hK.out _ _ (HK116.out) (fun hHeld=>?_)
  clear hK K
  (try simp only [Act.put,sA,sZ,sS])
  refine pR 4 ⟨some 12,_,_,_,_,none⟩ (fun K hK=>?_)
  go_simp
  go_at_call 196
  refine (UJ.out _ _ _ HZ116.out HX.out).mono ?_
  rintro e w117 ⟨rfl,YM⟩
  have Rq:=abC (Rs.out.kept YM)
  have HK117:=abC (HK116.out.trans (Kept.of_below YM))
  clear YM
  (try dsimp only)
  refine hK.out _ _ (HK117.out) (fun hHeld=>?_)
  clear hK K
  (try simp only [Act.put,sA,sZ,sS])
  refine wpAnyH_done (by kernel_rfl) ?_ _
  have sH:=Rq
  clear HB1
  (try simp only [Exit.then])
  go_wp2_with (first|((with_reducible refine aS 13 ?_);refine lL rfl rfl (sH.out.get 2 rfl) rfl (aj _ _) Tryz.underlying125 rfl (bK oH.out) ?_)|((with_reducible refine aT 2 ?_);refine lS rfl rfl sH 1 rfl rfl rfl (av _ _ oH.out dG.out) (dx oH.out) (ak _ _) ?_;intro w8 gu))
  (try simp only [Exit.inBlock,Exit.then])
  refine bodyPost_ret (aN rfl _ _ (w.heap.size+1) 125 _ (0,0) _ _ rfl (gu.out.get 1 rfl) Tryz.underlying125 rfl (dx oH.out) rfl) rfl ?_
  refine ⟨_,?_,by rw [HR.out];exact HX1.out,gu.out.below⟩
  rw [HR.out];rfl
 ·have UJ:=abC (fun xs ys w h1 h2=>(by have:=kY xs ys (aA x0 x0) a w h1 h2;rw [decide_eq_false hs] at this;exact this:Calls Tryz.prog 196 #[.agg (arr .i64 xs), .agg (arr .i64 ys)] w fun e w'=>e = .returned (.bool false)∧Below w.heap.size w w'))
  have hr:=CV.out
  rw [if_neg hs] at hr
  have HR:=abC hr
  clear hs hr
  have d9:=abC ((Kept.refl (fun _=>False) wy).drew)
  have eF:=abC (HB1.out.drew)
  refine wp_region_held_drew (S:=(fun w'=>Kept (fun _=>False) wy w')) (by kernel_rfl) (d9.out) (fun hHeld=>?_)
  generalize wy.drew=wd at d9 eF hHeld ⊢
  refine' wpAnyH_take (i:=0) (oi:=(⟨some 8,_,_,_,_,none⟩:Oper)) (v:=_) rfl (by kernel_rfl) (by kernel_rfl) (by kernel_rfl) (fun _ _ _ h=>h) (yieldsIf_load_mid (by rfl) _ _ rfl _ _ rfl (x1.map (Value.int .i64)) _ ?hS118 Tryz.underlying125 rfl (by rw [abD];exact bK oH.out)) (by assumption) ?yj
  case hS118=>(intro w hSw;(try dsimp only at hSw);exact aO (hSw.blk (HB1.out.get 2 rfl) (fun e=>e.elim)) 0 _ (by rw [abD];exact aj _ _))
  (try simp only [Act.put,sA,sZ,sS])
  refine' wpAnyH_take (i:=1) (oi:=(⟨some 9,_,_,_,_,none⟩:Oper)) (v:=_) rfl (by kernel_rfl) (by kernel_rfl) (by kernel_rfl) (fun _ _ _ h=>h) (yieldsIf_load_mid (by rfl) _ _ rfl _ _ rfl (x1.map (Value.int .i64)) _ ?hS119 Tryz.underlying125 rfl (by rw [abD];exact bK oH.out)) (by assumption) ?yh
  case hS119=>(intro w hSw;(try dsimp only at hSw);exact aO (hSw.blk (HB1.out.get 2 rfl) (fun e=>e.elim)) 0 _ (by rw [abD];exact aj _ _))
  (try simp only [Act.put,sA,sZ,sS])
  refine' wpAnyH_take (i:=3) (oi:=(⟨some 11,_,_,_,_,none⟩:Oper)) (v:=_) rfl (by kernel_rfl) (by kernel_rfl) (by kernel_rfl) (fun _ _ _ h=>h) (yieldsIf_load_mid (by rfl) _ _ rfl _ _ rfl (xs.map (Value.int .i64)) _ ?hS120 Tryz.underlying125 rfl (by rw [abD];exact bK jc.out)) (by assumption) ?yc
  case hS120=>(intro w hSw;(try dsimp only at hSw);exact aO (hSw.blk (HB1.out.get 0 rfl) (fun e=>e.elim)) 0 _ (by rw [abD];exact aj _ _))
  (try simp only [Act.put,sA,sZ,sS])
  refine pR 2 ⟨some 10,_,_,_,_,none⟩ (fun K hK=>?_)
  go_simp
  go_at_call 132
  refine (bM _ _ _ _ _ HX1.out HX1.out).mono ?_
  rintro e w121 ⟨z121,rfl,h121,YK⟩
  have HZ121:=abC h121
  have HL121:=abC h121.1
  clear h121
  have HB121:=abC (eF.out.kept YK)
  have HK121:=abC (d9.out.trans (Kept.of_below YK))
  clear YK
  (try dsimp only)
  refine hK.out _ _ (HK121.out) (fun hHeld=>?_)
  clear hK K
  (try simp only [Act.put,sA,sZ,sS])
  refine pR 4 ⟨some 12,_,_,_,_,none⟩ (fun K hK=>?_)
  go_simp
  go_at_call 196
  refine (UJ.out _ _ _ HZ121.out HX.out).mono ?_
  rintro e w122 ⟨rfl,YJ⟩
  have HB122:=abC (HB121.out.kept YJ)
  have HK122:=abC (HK121.out.trans (Kept.of_below YJ))
  clear YJ
  (try dsimp only)
  refine hK.out _ _ (HK122.out) (fun hHeld=>?_)
  clear hK K
  (try simp only [Act.put,sA,sZ,sS])
  refine wpAnyH_done (by kernel_rfl) ?_ _
  have sH:=HB122
  clear HB1
  (try simp only [Exit.then])
  have HTb:=abC (bC HT.out sH.out.below)
  obtain ⟨bb,hbb⟩:∃ b,b=decide (aA (aA x0 im) (aA x0 im)=a):=⟨_,rfl⟩
  rw [← hbb] at HR
  have HSM2:=abC (fun xs ys w h1 h2=>(by have:=kY xs ys (aA (aA x0 im) (aA x0 im)) a w h1 h2;rw [← hbb] at this;exact this:Calls Tryz.prog 196 #[.agg (arr .i64 xs), .agg (arr .i64 ys)] w fun e w'=>e = .returned (.bool bb)∧Below w.heap.size w w'))
  clear hbb
  go_upto_region 5 with (first|((with_reducible refine aS 14 ?_);refine lL rfl rfl (sH.out.get 2 rfl) rfl (aj _ _) Tryz.underlying125 rfl (bK oH.out) ?_)|((with_reducible refine aS 15 ?_);refine wpList_load_mid rfl 125 _ rfl 6 0 rfl (iL.map (Value.int .i64)) _ (HTb.out) Tryz.underlying125 rfl (by rw [abD];exact bK HIL.out) ?_;(try (show wpList _ _ _ _ (Act.put _ _ (.agg (arr .i64 iL))) _)))|((with_reducible show Calls _ 132 #[.agg _, .agg _] _ _);go_at_call 132; refine lZ (bM _ _ _ _ _ HX1.out HI.out) sH ?_;intro z123 w123 QY HB123;have xu:=abC QY.out.1)|((with_reducible refine aT 4 (x:=(Operand.tmp 16)) ?_);refine lS rfl rfl HB123 2 rfl rfl rfl (av _ _ xu.out oH.out) (dx xu.out) (ak _ _) ?_;intro w124 uH))
  have d9:=abC ((Kept.refl (fun x=>x=w.heap.size+1) w124).drew)
  have eF:=abC (uH.out.drew)
  refine wp_region_held_drew (S:=(fun w'=>Kept (fun x=>x=w.heap.size+1) w124 w')) (by kernel_rfl) (d9.out) (fun hHeld=>?_)
  generalize w124.drew=wd at d9 eF hHeld ⊢
  refine' wpAnyH_take (i:=0) (oi:=(⟨some 17,_,_,_,_,none⟩:Oper)) (v:=_) rfl (by kernel_rfl) (by kernel_rfl) (by kernel_rfl) (fun _ _ _ h=>h) (yieldsIf_load_mid (by rfl) _ _ rfl _ _ rfl (z123.map (Value.int .i64)) _ ?hS125 Tryz.underlying125 rfl (by rw [abD];exact bK xu.out)) (by assumption) ?EW
  case hS125=>(intro w hSw;(try dsimp only at hSw);exact aO (hSw.blk (uH.out.get 2 rfl) (uH.out.ne 2 1 rfl rfl (by decide))) 0 _ (by rw [abD];exact aj _ _))
  (try simp only [Act.put,sA,sZ,sS])
  refine' wpAnyH_take (i:=1) (oi:=(⟨some 18,_,_,_,_,none⟩:Oper)) (v:=_) rfl (by kernel_rfl) (by kernel_rfl) (by kernel_rfl) (fun _ _ _ h=>h) (yieldsIf_load_mid (by rfl) _ _ rfl _ _ rfl (z123.map (Value.int .i64)) _ ?hS126 Tryz.underlying125 rfl (by rw [abD];exact bK xu.out)) (by assumption) ?x9
  case hS126=>(intro w hSw;(try dsimp only at hSw);exact aO (hSw.blk (uH.out.get 2 rfl) (uH.out.ne 2 1 rfl rfl (by decide))) 0 _ (by rw [abD];exact aj _ _))
  (try simp only [Act.put,sA,sZ,sS])
  refine' wpAnyH_take (i:=2) (oi:=(⟨some 19,_,_,_,_,none⟩:Oper)) (v:=_) rfl (by kernel_rfl) (by kernel_rfl) (by kernel_rfl) (fun _ _ _ h=>h) (yieldsIf_load_mid (by rfl) _ _ rfl _ _ rfl (z123.map (Value.int .i64)) _ ?hS127 Tryz.underlying125 rfl (by rw [abD];exact bK xu.out)) (by assumption) ?xZ
  case hS127=>(intro w hSw;(try dsimp only at hSw);exact aO (hSw.blk (uH.out.get 2 rfl) (uH.out.ne 2 1 rfl rfl (by decide))) 0 _ (by rw [abD];exact aj _ _))
  (try simp only [Act.put,sA,sZ,sS])
  refine' wpAnyH_take (i:=4) (oi:=(⟨some 21,_,_,_,_,none⟩:Oper)) (v:=_) rfl (by kernel_rfl) (by kernel_rfl) (by kernel_rfl) (fun _ _ _ h=>h) (yieldsIf_load_mid (by rfl) _ _ rfl _ _ rfl (xs.map (Value.int .i64)) _ ?hS128 Tryz.underlying125 rfl (by rw [abD];exact bK jc.out)) (by assumption) ?xY
  case hS128=>(intro w hSw;(try dsimp only at hSw);exact aO (hSw.blk (uH.out.get 0 rfl) (uH.out.ne 0 1 rfl rfl (by decide))) 0 _ (by rw [abD];exact aj _ _))
  (try simp only [Act.put,sA,sZ,sS])
  refine pR 3 ⟨some 20,_,_,_,_,none⟩ (fun K hK=>?_)
  go_simp
  go_at_call 132
  refine (bM _ _ _ _ _ QY.out QY.out).mono ?_
  rintro e w129 ⟨z129,rfl,h129,YI⟩
  have HZ129:=abC h129
  have HL129:=abC h129.1
  clear h129
  have HB129:=abC (eF.out.kept YI)
  have HK129:=abC (d9.out.trans (Kept.of_below YI))
  clear YI
  (try dsimp only)
  refine hK.out _ _ (HK129.out) (fun hHeld=>?_)
  clear hK K
  (try simp only [Act.put,sA,sZ,sS])
  refine pR 5 ⟨some 22,_,_,_,_,none⟩ (fun K hK=>?_)
  go_simp
  go_at_call 196
  refine (HSM2.out _ _ _ HZ129.out HX.out).mono ?_
  rintro e w130 ⟨rfl,YH⟩
  have HB130:=abC (HB129.out.kept YH)
  have HK130:=abC (HK129.out.trans (Kept.of_below YH))
  clear YH
  (try dsimp only)
  refine hK.out _ _ (HK130.out) (fun hHeld=>?_)
  clear hK K
  (try simp only [Act.put,sA,sZ,sS])
  refine pR 6 ⟨none,_,_,_,_,none⟩ (fun K hK=>?_)
  refine aI rfl 125 (.tmp 2) (.tmp 17) rfl (w.heap.size+1) _ _ _ (HB130.out.get 1 rfl) rfl rfl (av _ _ xu.out dG.out) (dx xu.out) (ak _ _) ?_
  intro w131 hb131 Yb hz131
  have HB131:=abC (HB130.out.put 1 rfl Yb hb131)
  have HK131:=abC (HK130.out.trans Yb)
  clear hb131 Yb hz131
  refine hK.out _ _ (HK131.out) (fun hHeld=>?_)
  clear hK K
  (try simp only [Act.put])
  refine pT 7 ⟨some 3,_,_,_,_,none⟩ (?v132) ?_
  (try simp only [Act.put,sA,sZ,sS])
  refine wpAnyH_done (by kernel_rfl) ?_ _
  have qM:=HB131
  have UW:=xu
  have uz:=QY
  (try simp only [Exit.then])
  go_wp2_with fail
  (try simp only [Exit.inBlock,Exit.then])
  refine bodyPost_ret (aN rfl _ _ (w.heap.size+1) 125 _ (0,0) _ _ rfl (qM.out.get 1 rfl) Tryz.underlying125 rfl (dx UW.out) rfl) rfl ?_
  refine ⟨_,?_,by rw [HR.out];exact uz.out,qM.out.below⟩
  rw [HR.out];rfl
end Go.Proofs.YthdgbgleklkaiaaGreatDoor.Rd
