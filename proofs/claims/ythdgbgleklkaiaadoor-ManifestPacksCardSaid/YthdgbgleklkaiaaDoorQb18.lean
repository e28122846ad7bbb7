/- The document's root. Condition: as each theorem says. -/

import Derived.Test.YthdgbgleklkaiaaDoorQb09
import Derived.Test.YthdgbgleklkaiaaDoorQb14
open Go.Lib renaming hid→acD
open List renaming length_map→acE
set_option linter.unusedSimpArgs false
set_option linter.unusedVariables false
set_option maxRecDepth 100000
set_option maxHeartbeats 16000000
namespace Go.Proofs.YthdgbgleklkaiaaDoor.Rd
open Go.RowKit Lm Fp
def imL:List Int:=[0xa0b0,0x4a0e,0x1b27,0xc4ee,0xe478,0xad2f,0x1806,0x2f43,0xd7a7,0x3dfb,0x99,0x2b4d,0xdf0b,0x4fc1,0x2480,0x2b83]
theorem imL_el:El imL im:=by refine ⟨rfl,by decide +kernel,by decide +kernel⟩
def Uc (w:World):Prop:=w.rangeAt 5 0 (imL.map (Value.int .i64))
theorem bC {a b:World} {g o:Nat} {xs:List Value} (h:a.rangeAt g o xs) (k:Below a.heap.size a b):b.rangeAt g o xs:=lG h (Kept.of_below k (T:=fun _=>False)) id
theorem zO {a:World} {g o:Nat} {x:Value} {xs:List Value} (h:a.rangeAt g o (x :: xs)):g < a.heap.size:=World.block_lt_of_cell? _ _ (h 0 x rfl)
theorem VI (xs:List Int) (a:Nat) (w:World) (hx:El xs a) (hT:Uc w) :
  Calls Tryd.prog 82 #[.agg (arr .i64 xs)] w fun e w'=>∃ zs,e = .returned (.tuple #[.agg (arr .i64 zs), .bool (gH a).2])∧El zs (gH a).1∧Below w.heap.size w w':=by
 have hm:=MU
 have hp:=fun w=>PN xs a eighth w hx
 obtain ⟨es,hes⟩:∃ x,x=aW (bD 256 32 eighth):=⟨_,rfl⟩
 rw [← hes] at hm hp
 have JF:Hid (es.length=32):=acD (by rw [hes,aJ,aK])
 obtain ⟨iL,hiL⟩:∃ x,x=imL:=⟨_,rfl⟩
 have HI:Hid (El iL im):=acD (by rw [hiL];exact imL_el)
 have HIL:=acD HI.out.1
 unfold Uc at hT
 rw [← hiL] at hT
 have HT:=acD hT
 have Ur:Hid (5 < w.heap.size):=acD (by rw [hiL] at hT;exact zO hT)
 obtain ⟨x0,hx0⟩:∃ x,x=iE a eighth 256:=⟨_,rfl⟩
 rw [← hx0] at hp
 have hrs:gH a=if aA x0 x0=a then (x0,true) else (aA x0 im,decide (aA (aA x0 im) (aA x0 im)=a)):=by rw [hx0];rfl
 have CZ:=acD hrs
 obtain ⟨ze,iM⟩:∃ zs:List Int,zs=List.replicate 16 0:=⟨_,rfl⟩
 have dN:Hid (∀ w,(zeroValue 98).run Tryd.prog w = .ok (.agg (arr .i64 ze)) w):=acD (by intro w;rw [iM];exact gJ w)
 have dG:Hid (ze.length=16):=acD (by rw [iM];rfl)
 have HM:=acD hm
 have HP:=acD hp
 have HX:=acD hx
 have iK:=acD hx.1
 have bQ:=acD (bM.two w (arr .i64 xs) (arr .i64 ze) 98 98)
 clear iM hes hx hm hp hiL hT hx0 hrs
 go_enter Tryd.func82, Tryd.ntmps82
 go_upto_region 1 with (first|((with_reducible refine aS 2 ?_);refine aj rfl 98 rfl _ (dN.out _) ?_))
 generalize ((w.alloc (.cells (arr .i64 xs) 98)).alloc (.cells (arr .i64 ze) 98))=wb at bQ ⊢
 go_cut [4] (fun u4 wx=>∃ g x1,u4 = .pointer (some ⟨g,0,none⟩)∧El x1 x0∧bM w wx [(w.heap.size,arr .i64 xs, 98),(w.heap.size+1,arr .i64 ze, 98),(g,arr .i64 x1, 98)])
 case first =>
  have dZ:=acD ((Kept.refl (fun _=>False) wb).drew)
  have eB:=acD (bQ.out.drew)
  refine wp_region_held_drew (S:=(fun w'=>Kept (fun _=>False) wb w')) (by kernel_rfl) (dZ.out) (fun hHeld=>?_)
  generalize wb.drew=wd at dZ eB hHeld ⊢
  refine' wpAnyH_take (i:=0) (oi:=(⟨some 5,_,_,_,_,none⟩:Oper)) (v:=_) rfl (by kernel_rfl) (by kernel_rfl) (by kernel_rfl) (fun _ _ _ h=>h) (yieldsIf_load_mid (by rfl) _ _ rfl _ _ rfl (xs.map (Value.int .i64)) _ ?ZH Tryd.underlying98 rfl (by rw [acE];exact bJ iK.out)) (by assumption) ?yA
  case ZH=>(intro w hSw;(try dsimp only at hSw);exact aN (hSw.blk (bQ.out.get 0 rfl) (fun e=>e.elim)) 0 _ (by rw [acE];exact au _ _))
  (try simp only [Act.put,sA,sZ,sS])
  refine wpAnyH_ready (rs:=[1,3]) (by kernel_rfl) (by simp) ?_
  refine AllReadyH.cons (o:=(⟨some 6,_,_,_,_,none⟩:Oper)) rfl (fun K hK=>?_) ?_
  ·go_simp
   go_at_call 94
   refine (HM.out _).mono ?_
   rintro e U5 ⟨rfl,Ar⟩
   have rJ:=acD (eB.out.kept Ar)
   have Bz:=acD (dZ.out.trans (Kept.of_below Ar))
   clear Ar
   (try dsimp only)
   refine hK.out _ _ (Bz.out) (fun hHeld=>?_)
   clear hK K
   (try simp only [Act.put,sA,sZ,sS])
   refine wpAnyH_ready (rs:=[2,3]) (by kernel_rfl) (by simp) ?_
   refine AllReadyH.cons (o:=(⟨some 7,_,_,_,_,none⟩:Oper)) rfl (fun K hK=>?_) ?_
   ·go_simp
    go_at_call 86
    refine (HP.out _).mono ?_
    rintro e U4 ⟨z103,rfl,MH,rz⟩
    have HZ103:=acD MH
    have Ep:=acD MH.1
    clear MH
    have uY:=acD (rJ.out.kept rz)
    have Er:=acD (Bz.out.trans (Kept.of_below rz))
    clear rz
    (try dsimp only)
    refine hK.out _ _ (Er.out) (fun hHeld=>?_)
    clear hK K
    (try simp only [Act.put,sA,sZ,sS])
    refine wpAnyH_ready (rs:=[3]) (by kernel_rfl) (by simp) ?_
    refine AllReadyH.cons (o:=(⟨some 4,_,_,_,_,none⟩:Oper)) rfl (fun K hK=>?_) AllReadyH.nil
    refine bg rfl 98 rfl _ (dN.out _) ?_
    have rH:=acD (uY.out.alloc (arr .i64 ze) 98)
    have JE:=acD (Er.out.alloc (.cells (arr .i64 ze) 98))
    have HN104:=acD (show wb.heap.size≤(U4).heap.size from Er.out.size)
    generalize (U4).heap.size=g104 at rH HN104 ⊢
    generalize (U4).alloc (.cells (arr .i64 ze) 98)=w104 at rH JE ⊢
    refine hK.out _ _ (JE.out) (fun hHeld=>?_)
    clear hK K
    (try simp only [Act.put,sA,sZ,sS])
    refine wpAnyH_ready (rs:=[4]) (by kernel_rfl) (by simp) ?_
    refine AllReadyH.cons (o:=(⟨none,_,_,_,_,none⟩:Oper)) rfl (fun K hK=>?_) AllReadyH.nil
    refine aH rfl 98 (.tmp 4) (.tmp 7) rfl (g104) _ _ _ (rH.out.get 2 rfl) rfl rfl (ay _ _ Ep.out dG.out) (cZ Ep.out) (av _ _) ?_
    intro w105 IW DN Xc
    have Eu:=acD (rH.out.put 2 rfl DN IW)
    have HK105:=acD (JE.out.cO DN (fun i hi e=>absurd hi (by rw [e];exact Nat.not_lt.2 HN104.out)))
    clear IW DN Xc
    refine hK.out _ _ (HK105.out) (fun hHeld=>?_)
    clear hK K
    (try simp only [Act.put])
    refine wpAnyH_done (by kernel_rfl) ?_ _
    go_wp2_with fail
    go_meet
    exact ⟨_,_,rfl,HZ103.out,Eu.out⟩
   refine AllReadyH.cons (o:=(⟨some 4,_,_,_,_,none⟩:Oper)) rfl (fun K hK=>?_) ?_
   ·refine bg rfl 98 rfl _ (dN.out _) ?_
    have Et:=acD (rJ.out.alloc (arr .i64 ze) 98)
    have HK106:=acD (Bz.out.alloc (.cells (arr .i64 ze) 98))
    have HN106:=acD (show wb.heap.size≤(U5).heap.size from Bz.out.size)
    generalize (U5).heap.size=g106 at Et HN106 ⊢
    generalize (U5).alloc (.cells (arr .i64 ze) 98)=w106 at Et HK106 ⊢
    refine hK.out _ _ (HK106.out) (fun hHeld=>?_)
    clear hK K
    (try simp only [Act.put,sA,sZ,sS])
    refine wpAnyH_ready (rs:=[2]) (by kernel_rfl) (by simp) ?_
    refine AllReadyH.cons (o:=(⟨some 7,_,_,_,_,none⟩:Oper)) rfl (fun K hK=>?_) AllReadyH.nil
    go_simp
    go_at_call 86
    refine (HP.out _).mono ?_
    rintro e w107 ⟨z107,rfl,h107,Aq⟩
    have HZ107:=acD h107
    have HL107:=acD h107.1
    clear h107
    have rG:=acD (Et.out.kept Aq)
    have JD:=acD (HK106.out.trans (Kept.of_below Aq))
    clear Aq
    (try dsimp only)
    refine hK.out _ _ (JD.out) (fun hHeld=>?_)
    clear hK K
    (try simp only [Act.put,sA,sZ,sS])
    refine wpAnyH_ready (rs:=[4]) (by kernel_rfl) (by simp) ?_
    refine AllReadyH.cons (o:=(⟨none,_,_,_,_,none⟩:Oper)) rfl (fun K hK=>?_) AllReadyH.nil
    refine aH rfl 98 (.tmp 4) (.tmp 7) rfl (g106) _ _ _ (rG.out.get 2 rfl) rfl rfl (ay _ _ HL107.out dG.out) (cZ HL107.out) (av _ _) ?_
    intro w108 uJ DL Xb
    have xP:=acD (rG.out.put 2 rfl DL uJ)
    have HK108:=acD (JD.out.cO DL (fun i hi e=>absurd hi (by rw [e];exact Nat.not_lt.2 HN106.out)))
    clear uJ DL Xb
    refine hK.out _ _ (HK108.out) (fun hHeld=>?_)
    clear hK K
    (try simp only [Act.put])
    refine wpAnyH_done (by kernel_rfl) ?_ _
    go_wp2_with fail
    go_meet
    exact ⟨_,_,rfl,HZ107.out,xP.out⟩
   exact AllReadyH.nil
  refine AllReadyH.cons (o:=(⟨some 4,_,_,_,_,none⟩:Oper)) rfl (fun K hK=>?_) ?_
  ·refine bg rfl 98 rfl _ (dN.out _) ?_
   have Es:=acD (eB.out.alloc (arr .i64 ze) 98)
   have HK109:=acD (dZ.out.alloc (.cells (arr .i64 ze) 98))
   have HN109:=acD (show wb.heap.size≤(wd).heap.size from dZ.out.size)
   generalize (wd).heap.size=g109 at Es HN109 ⊢
   generalize (wd).alloc (.cells (arr .i64 ze) 98)=w109 at Es HK109 ⊢
   refine hK.out _ _ (HK109.out) (fun hHeld=>?_)
   clear hK K
   (try simp only [Act.put,sA,sZ,sS])
   refine wpAnyH_ready (rs:=[1]) (by kernel_rfl) (by simp) ?_
   refine AllReadyH.cons (o:=(⟨some 6,_,_,_,_,none⟩:Oper)) rfl (fun K hK=>?_) AllReadyH.nil
   go_simp
   go_at_call 94
   refine (HM.out _).mono ?_
   rintro e w110 ⟨rfl,YQ⟩
   have BO:=acD (Es.out.kept YQ)
   have HK110:=acD (HK109.out.trans (Kept.of_below YQ))
   clear YQ
   (try dsimp only)
   refine hK.out _ _ (HK110.out) (fun hHeld=>?_)
   clear hK K
   (try simp only [Act.put,sA,sZ,sS])
   refine wpAnyH_ready (rs:=[2]) (by kernel_rfl) (by simp) ?_
   refine AllReadyH.cons (o:=(⟨some 7,_,_,_,_,none⟩:Oper)) rfl (fun K hK=>?_) AllReadyH.nil
   go_simp
   go_at_call 86
   refine (HP.out _).mono ?_
   rintro e w111 ⟨z111,rfl,h111,DU⟩
   have HZ111:=acD h111
   have HL111:=acD h111.1
   clear h111
   have BM:=acD (BO.out.kept DU)
   have HK111:=acD (HK110.out.trans (Kept.of_below DU))
   clear DU
   (try dsimp only)
   refine hK.out _ _ (HK111.out) (fun hHeld=>?_)
   clear hK K
   (try simp only [Act.put,sA,sZ,sS])
   refine wpAnyH_ready (rs:=[4]) (by kernel_rfl) (by simp) ?_
   refine AllReadyH.cons (o:=(⟨none,_,_,_,_,none⟩:Oper)) rfl (fun K hK=>?_) AllReadyH.nil
   refine aH rfl 98 (.tmp 4) (.tmp 7) rfl (g109) _ _ _ (BM.out.get 2 rfl) rfl rfl (ay _ _ HL111.out dG.out) (cZ HL111.out) (av _ _) ?_
   intro w112 IV XP hz112
   have Rc:=acD (BM.out.put 2 rfl XP IV)
   have HK112:=acD (HK111.out.cO XP (fun i hi e=>absurd hi (by rw [e];exact Nat.not_lt.2 HN109.out)))
   clear IV XP hz112
   refine hK.out _ _ (HK112.out) (fun hHeld=>?_)
   clear hK K
   (try simp only [Act.put])
   refine wpAnyH_done (by kernel_rfl) ?_ _
   go_wp2_with fail
   go_meet
   exact ⟨_,_,rfl,HZ111.out,Rc.out⟩
  exact AllReadyH.nil
 case rest =>
 obtain ⟨wy,rfl⟩:∃ x:World,x=wc:=⟨_,rfl⟩
 obtain ⟨gx,x1,rfl,h1,hb1⟩:=hcut
 have HB1:=acD hb1
 have Uf:=acD h1
 have nC:=acD h1.1
 clear h1 hb1 bQ
 go_upto_region 2 with fail
 by_cases hs:aA x0 x0=a
 ·have HSM:=acD (fun xs ys w h1 h2=>(by have:=pJ xs ys (aA x0 x0) a w h1 h2;rw [decide_eq_true hs] at this;exact this:Calls Tryd.prog 95 #[.agg (arr .i64 xs), .agg (arr .i64 ys)] w fun e w'=>e = .returned (.bool true)∧Below w.heap.size w w'))
  have hr:=CZ.out
  rw [if_pos hs] at hr
  have HR:=acD hr
  clear hs hr
  have dZ:=acD ((Kept.refl (fun _=>False) wy).drew)
  have eB:=acD (HB1.out.drew)
  refine wp_region_held_drew (S:=(fun w'=>Kept (fun _=>False) wy w')) (by kernel_rfl) (dZ.out) (fun hHeld=>?_)
  generalize wy.drew=wd at dZ eB hHeld ⊢
  refine' wpAnyH_take (i:=0) (oi:=(⟨some 8,_,_,_,_,none⟩:Oper)) (v:=_) rfl (by kernel_rfl) (by kernel_rfl) (by kernel_rfl) (fun _ _ _ h=>h) (yieldsIf_load_mid (by rfl) _ _ rfl _ _ rfl (x1.map (Value.int .i64)) _ ?hS113 Tryd.underlying98 rfl (by rw [acE];exact bJ nC.out)) (by assumption) ?Pv
  case hS113=>(intro w hSw;(try dsimp only at hSw);exact aN (hSw.blk (HB1.out.get 2 rfl) (fun e=>e.elim)) 0 _ (by rw [acE];exact au _ _))
  (try simp only [Act.put,sA,sZ,sS])
  refine' wpAnyH_take (i:=1) (oi:=(⟨some 9,_,_,_,_,none⟩:Oper)) (v:=_) rfl (by kernel_rfl) (by kernel_rfl) (by kernel_rfl) (fun _ _ _ h=>h) (yieldsIf_load_mid (by rfl) _ _ rfl _ _ rfl (x1.map (Value.int .i64)) _ ?hS114 Tryd.underlying98 rfl (by rw [acE];exact bJ nC.out)) (by assumption) ?Pq
  case hS114=>(intro w hSw;(try dsimp only at hSw);exact aN (hSw.blk (HB1.out.get 2 rfl) (fun e=>e.elim)) 0 _ (by rw [acE];exact au _ _))
  (try simp only [Act.put,sA,sZ,sS])
  refine' wpAnyH_take (i:=3) (oi:=(⟨some 11,_,_,_,_,none⟩:Oper)) (v:=_) rfl (by kernel_rfl) (by kernel_rfl) (by kernel_rfl) (fun _ _ _ h=>h) (yieldsIf_load_mid (by rfl) _ _ rfl _ _ rfl (xs.map (Value.int .i64)) _ ?hS115 Tryd.underlying98 rfl (by rw [acE];exact bJ iK.out)) (by assumption) ?Pp
  case hS115=>(intro w hSw;(try dsimp only at hSw);exact aN (hSw.blk (HB1.out.get 0 rfl) (fun e=>e.elim)) 0 _ (by rw [acE];exact au _ _))
  (try simp only [Act.put,sA,sZ,sS])
  refine wpAnyH_ready (rs:=[2]) (by kernel_rfl) (by simp) ?_
  refine AllReadyH.cons (o:=(⟨some 10,_,_,_,_,none⟩:Oper)) rfl (fun K hK=>?_) AllReadyH.nil
  go_simp
  go_at_call 68
  refine (bL _ _ _ _ _ Uf.out Uf.out).mono ?_
  rintro e w116 ⟨z116,rfl,h116,YP⟩
  have HZ116:=acD h116
  have HL116:=acD h116.1
  clear h116
  have BL:=acD (eB.out.kept YP)
  have HK116:=acD (dZ.out.trans (Kept.of_below YP))
  clear YP
  (try dsimp only)
  refine hK.out _ _ (HK116.out) (fun hHeld=>?_)
  clear hK K
  (try simp only [Act.put,sA,sZ,sS])
  refine wpAnyH_ready (rs:=[4]) (by kernel_rfl) (by simp) ?_
  refine AllReadyH.cons (o:=(⟨some 12,_,_,_,_,none⟩:Oper)) rfl (fun K hK=>?_) AllReadyH.nil
  go_simp
  go_at_call 95
  refine (HSM.out _ _ _ HZ116.out HX.out).mono ?_
  rintro e w117 ⟨rfl,DT⟩
  have Ra:=acD (BL.out.kept DT)
  have HK117:=acD (HK116.out.trans (Kept.of_below DT))
  clear DT
  (try dsimp only)
  refine hK.out _ _ (HK117.out) (fun hHeld=>?_)
  clear hK K
  (try simp only [Act.put,sA,sZ,sS])
  refine wpAnyH_done (by kernel_rfl) ?_ _
  have rF:=Ra
  clear HB1
  (try simp only [Exit.then])
  go_wp2_with (first|((with_reducible refine aS 13 ?_);refine lL rfl rfl (rF.out.get 2 rfl) rfl (au _ _) Tryd.underlying98 rfl (bJ nC.out) ?_)|((with_reducible refine aT 2 ?_);refine lS rfl rfl rF 1 rfl rfl rfl (ay _ _ nC.out dG.out) (cZ nC.out) (av _ _) ?_;intro w8 fC))
  (try simp only [Exit.inBlock,Exit.then])
  refine bodyPost_ret (aV rfl _ _ (w.heap.size+1) 98 _ (0,0) _ _ rfl (fC.out.get 1 rfl) Tryd.underlying98 rfl (cZ nC.out) rfl) rfl ?_
  refine ⟨_,?_,by rw [HR.out];exact Uf.out,fC.out.below⟩
  rw [HR.out];rfl
 ·have HSM:=acD (fun xs ys w h1 h2=>(by have:=pJ xs ys (aA x0 x0) a w h1 h2;rw [decide_eq_false hs] at this;exact this:Calls Tryd.prog 95 #[.agg (arr .i64 xs), .agg (arr .i64 ys)] w fun e w'=>e = .returned (.bool false)∧Below w.heap.size w w'))
  have hr:=CZ.out
  rw [if_neg hs] at hr
  have HR:=acD hr
  clear hs hr
  have dZ:=acD ((Kept.refl (fun _=>False) wy).drew)
  have eB:=acD (HB1.out.drew)
  refine wp_region_held_drew (S:=(fun w'=>Kept (fun _=>False) wy w')) (by kernel_rfl) (dZ.out) (fun hHeld=>?_)
  generalize wy.drew=wd at dZ eB hHeld ⊢
  refine' wpAnyH_take (i:=0) (oi:=(⟨some 8,_,_,_,_,none⟩:Oper)) (v:=_) rfl (by kernel_rfl) (by kernel_rfl) (by kernel_rfl) (fun _ _ _ h=>h) (yieldsIf_load_mid (by rfl) _ _ rfl _ _ rfl (x1.map (Value.int .i64)) _ ?hS118 Tryd.underlying98 rfl (by rw [acE];exact bJ nC.out)) (by assumption) ?Pn
  case hS118=>(intro w hSw;(try dsimp only at hSw);exact aN (hSw.blk (HB1.out.get 2 rfl) (fun e=>e.elim)) 0 _ (by rw [acE];exact au _ _))
  (try simp only [Act.put,sA,sZ,sS])
  refine' wpAnyH_take (i:=1) (oi:=(⟨some 9,_,_,_,_,none⟩:Oper)) (v:=_) rfl (by kernel_rfl) (by kernel_rfl) (by kernel_rfl) (fun _ _ _ h=>h) (yieldsIf_load_mid (by rfl) _ _ rfl _ _ rfl (x1.map (Value.int .i64)) _ ?hS119 Tryd.underlying98 rfl (by rw [acE];exact bJ nC.out)) (by assumption) ?Pm
  case hS119=>(intro w hSw;(try dsimp only at hSw);exact aN (hSw.blk (HB1.out.get 2 rfl) (fun e=>e.elim)) 0 _ (by rw [acE];exact au _ _))
  (try simp only [Act.put,sA,sZ,sS])
  refine' wpAnyH_take (i:=3) (oi:=(⟨some 11,_,_,_,_,none⟩:Oper)) (v:=_) rfl (by kernel_rfl) (by kernel_rfl) (by kernel_rfl) (fun _ _ _ h=>h) (yieldsIf_load_mid (by rfl) _ _ rfl _ _ rfl (xs.map (Value.int .i64)) _ ?hS120 Tryd.underlying98 rfl (by rw [acE];exact bJ iK.out)) (by assumption) ?Pk
  case hS120=>(intro w hSw;(try dsimp only at hSw);exact aN (hSw.blk (HB1.out.get 0 rfl) (fun e=>e.elim)) 0 _ (by rw [acE];exact au _ _))
  (try simp only [Act.put,sA,sZ,sS])
  refine wpAnyH_ready (rs:=[2]) (by kernel_rfl) (by simp) ?_
  refine AllReadyH.cons (o:=(⟨some 10,_,_,_,_,none⟩:Oper)) rfl (fun K hK=>?_) AllReadyH.nil
  go_simp
  go_at_call 68
  refine (bL _ _ _ _ _ Uf.out Uf.out).mono ?_
  rintro e w121 ⟨z121,rfl,h121,YO⟩
  have HZ121:=acD h121
  have HL121:=acD h121.1
  clear h121
  have HB121:=acD (eB.out.kept YO)
  have HK121:=acD (dZ.out.trans (Kept.of_below YO))
  clear YO
  (try dsimp only)
  refine hK.out _ _ (HK121.out) (fun hHeld=>?_)
  clear hK K
  (try simp only [Act.put,sA,sZ,sS])
  refine wpAnyH_ready (rs:=[4]) (by kernel_rfl) (by simp) ?_
  refine AllReadyH.cons (o:=(⟨some 12,_,_,_,_,none⟩:Oper)) rfl (fun K hK=>?_) AllReadyH.nil
  go_simp
  go_at_call 95
  refine (HSM.out _ _ _ HZ121.out HX.out).mono ?_
  rintro e w122 ⟨rfl,YN⟩
  have HB122:=acD (HB121.out.kept YN)
  have HK122:=acD (HK121.out.trans (Kept.of_below YN))
  clear YN
  (try dsimp only)
  refine hK.out _ _ (HK122.out) (fun hHeld=>?_)
  clear hK K
  (try simp only [Act.put,sA,sZ,sS])
  refine wpAnyH_done (by kernel_rfl) ?_ _
  have rF:=HB122
  clear HB1
  (try simp only [Exit.then])
  have HTb:=acD (bC HT.out rF.out.below)
  obtain ⟨bb,hbb⟩:∃ b,b=decide (aA (aA x0 im) (aA x0 im)=a):=⟨_,rfl⟩
  rw [← hbb] at HR
  have HSM2:=acD (fun xs ys w h1 h2=>(by have:=pJ xs ys (aA (aA x0 im) (aA x0 im)) a w h1 h2;rw [← hbb] at this;exact this:Calls Tryd.prog 95 #[.agg (arr .i64 xs), .agg (arr .i64 ys)] w fun e w'=>e = .returned (.bool bb)∧Below w.heap.size w w'))
  clear hbb
  go_upto_region 5 with (first|((with_reducible refine aS 14 ?_);refine lL rfl rfl (rF.out.get 2 rfl) rfl (au _ _) Tryd.underlying98 rfl (bJ nC.out) ?_)|((with_reducible refine aS 15 ?_);refine wpList_load_mid rfl 98 _ rfl 5 0 rfl (iL.map (Value.int .i64)) _ (HTb.out) Tryd.underlying98 rfl (by rw [acE];exact bJ HIL.out) ?_;(try (show wpList _ _ _ _ (Act.put _ _ (.agg (arr .i64 iL))) _)))|((with_reducible show Calls _ 68 #[.agg _, .agg _] _ _);go_at_call 68; refine (bL _ _ _ _ _ Uf.out HI.out).mono ?_;rintro e w123 ⟨z123,rfl,h123,hb123⟩;have HZ123:=acD h123;have xM:=acD h123.1;clear h123;have HB123:=acD (rF.out.kept hb123);clear hb123)|((with_reducible refine aT 4 (x:=(Operand.tmp 16)) ?_);refine lS rfl rfl HB123 2 rfl rfl rfl (ay _ _ xM.out nC.out) (cZ xM.out) (av _ _) ?_;intro w124 uX))
  have dZ:=acD ((Kept.refl (fun x=>x=w.heap.size+1) w124).drew)
  have eB:=acD (uX.out.drew)
  refine wp_region_held_drew (S:=(fun w'=>Kept (fun x=>x=w.heap.size+1) w124 w')) (by kernel_rfl) (dZ.out) (fun hHeld=>?_)
  generalize w124.drew=wd at dZ eB hHeld ⊢
  refine' wpAnyH_take (i:=0) (oi:=(⟨some 17,_,_,_,_,none⟩:Oper)) (v:=_) rfl (by kernel_rfl) (by kernel_rfl) (by kernel_rfl) (fun _ _ _ h=>h) (yieldsIf_load_mid (by rfl) _ _ rfl _ _ rfl (z123.map (Value.int .i64)) _ ?hS125 Tryd.underlying98 rfl (by rw [acE];exact bJ xM.out)) (by assumption) ?rest125
  case hS125=>(intro w hSw;(try dsimp only at hSw);exact aN (hSw.blk (uX.out.get 2 rfl) (uX.out.ne 2 1 rfl rfl (by decide))) 0 _ (by rw [acE];exact au _ _))
  (try simp only [Act.put,sA,sZ,sS])
  refine' wpAnyH_take (i:=1) (oi:=(⟨some 18,_,_,_,_,none⟩:Oper)) (v:=_) rfl (by kernel_rfl) (by kernel_rfl) (by kernel_rfl) (fun _ _ _ h=>h) (yieldsIf_load_mid (by rfl) _ _ rfl _ _ rfl (z123.map (Value.int .i64)) _ ?hS126 Tryd.underlying98 rfl (by rw [acE];exact bJ xM.out)) (by assumption) ?Pj
  case hS126=>(intro w hSw;(try dsimp only at hSw);exact aN (hSw.blk (uX.out.get 2 rfl) (uX.out.ne 2 1 rfl rfl (by decide))) 0 _ (by rw [acE];exact au _ _))
  (try simp only [Act.put,sA,sZ,sS])
  refine' wpAnyH_take (i:=2) (oi:=(⟨some 19,_,_,_,_,none⟩:Oper)) (v:=_) rfl (by kernel_rfl) (by kernel_rfl) (by kernel_rfl) (fun _ _ _ h=>h) (yieldsIf_load_mid (by rfl) _ _ rfl _ _ rfl (z123.map (Value.int .i64)) _ ?hS127 Tryd.underlying98 rfl (by rw [acE];exact bJ xM.out)) (by assumption) ?Ph
  case hS127=>(intro w hSw;(try dsimp only at hSw);exact aN (hSw.blk (uX.out.get 2 rfl) (uX.out.ne 2 1 rfl rfl (by decide))) 0 _ (by rw [acE];exact au _ _))
  (try simp only [Act.put,sA,sZ,sS])
  refine' wpAnyH_take (i:=4) (oi:=(⟨some 21,_,_,_,_,none⟩:Oper)) (v:=_) rfl (by kernel_rfl) (by kernel_rfl) (by kernel_rfl) (fun _ _ _ h=>h) (yieldsIf_load_mid (by rfl) _ _ rfl _ _ rfl (xs.map (Value.int .i64)) _ ?hS128 Tryd.underlying98 rfl (by rw [acE];exact bJ iK.out)) (by assumption) ?Pg
  case hS128=>(intro w hSw;(try dsimp only at hSw);exact aN (hSw.blk (uX.out.get 0 rfl) (uX.out.ne 0 1 rfl rfl (by decide))) 0 _ (by rw [acE];exact au _ _))
  (try simp only [Act.put,sA,sZ,sS])
  refine wpAnyH_ready (rs:=[3]) (by kernel_rfl) (by simp) ?_
  refine AllReadyH.cons (o:=(⟨some 20,_,_,_,_,none⟩:Oper)) rfl (fun K hK=>?_) AllReadyH.nil
  go_simp
  go_at_call 68
  refine (bL _ _ _ _ _ HZ123.out HZ123.out).mono ?_
  rintro e w129 ⟨z129,rfl,h129,YM⟩
  have HZ129:=acD h129
  have HL129:=acD h129.1
  clear h129
  have HB129:=acD (eB.out.kept YM)
  have HK129:=acD (dZ.out.trans (Kept.of_below YM))
  clear YM
  (try dsimp only)
  refine hK.out _ _ (HK129.out) (fun hHeld=>?_)
  clear hK K
  (try simp only [Act.put,sA,sZ,sS])
  refine wpAnyH_ready (rs:=[5]) (by kernel_rfl) (by simp) ?_
  refine AllReadyH.cons (o:=(⟨some 22,_,_,_,_,none⟩:Oper)) rfl (fun K hK=>?_) AllReadyH.nil
  go_simp
  go_at_call 95
  refine (HSM2.out _ _ _ HZ129.out HX.out).mono ?_
  rintro e w130 ⟨rfl,YK⟩
  have HB130:=acD (HB129.out.kept YK)
  have HK130:=acD (HK129.out.trans (Kept.of_below YK))
  clear YK
  (try dsimp only)
  refine hK.out _ _ (HK130.out) (fun hHeld=>?_)
  clear hK K
  (try simp only [Act.put,sA,sZ,sS])
  refine wpAnyH_ready (rs:=[6]) (by kernel_rfl) (by simp) ?_
  refine AllReadyH.cons (o:=(⟨none,_,_,_,_,none⟩:Oper)) rfl (fun K hK=>?_) AllReadyH.nil
  refine aH rfl 98 (.tmp 2) (.tmp 17) rfl (w.heap.size+1) _ _ _ (HB130.out.get 1 rfl) rfl rfl (ay _ _ xM.out dG.out) (cZ xM.out) (av _ _) ?_
  intro w131 hb131 XO hz131
  have HB131:=acD (HB130.out.put 1 rfl XO hb131)
  have HK131:=acD (HK130.out.trans XO)
  clear hb131 XO hz131
  refine hK.out _ _ (HK131.out) (fun hHeld=>?_)
  clear hK K
  (try simp only [Act.put])
  refine wpAnyH_take (i:=7) (oi:=(⟨some 3,_,_,_,_,none⟩:Oper)) (v:=?v132) rfl (by kernel_rfl) (by kernel_rfl) (by kernel_rfl) (fun _ _ _ h=>h) (Or.inl ⟨by rfl,?Xd⟩) (by assumption) ?rest132
  case Xd=>(intro w hSw;(try dsimp only at hSw);go_simp;try (with_reducible rfl))
  (try simp only [Act.put,sA,sZ,sS])
  refine wpAnyH_done (by kernel_rfl) ?_ _
  have q8:=HB131
  have Un:=xM
  have uT:=HZ123
  (try simp only [Exit.then])
  go_wp2_with fail
  (try simp only [Exit.inBlock,Exit.then])
  refine bodyPost_ret (aV rfl _ _ (w.heap.size+1) 98 _ (0,0) _ _ rfl (q8.out.get 1 rfl) Tryd.underlying98 rfl (cZ Un.out) rfl) rfl ?_
  refine ⟨_,?_,by rw [HR.out];exact uT.out,q8.out.below⟩
  rw [HR.out];rfl
end Go.Proofs.YthdgbgleklkaiaaDoor.Rd
