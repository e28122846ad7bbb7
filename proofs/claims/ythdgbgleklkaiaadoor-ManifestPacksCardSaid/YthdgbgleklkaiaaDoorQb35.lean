/- The document's Expand (of 32 bytes), wrapping. Condition: as each theorem says. -/

import Derived.Test.YthdgbgleklkaiaaDoorQb06
import Derived.Test.YthdgbgleklkaiaaDoorQb30
open Go.Lib renaming hid→acD
open Nat renaming le_refl→acE,le_trans→acF,le_of_lt→acI
open List renaming nil_append→acG,length_append→acH,mem_append→acJ,mem_cons→acK,not_mem_nil→acL,cons_append→acM
set_option linter.unusedSimpArgs false
set_option linter.unusedVariables false
set_option maxRecDepth 100000
set_option maxHeartbeats 16000000
namespace Go.Proofs.YthdgbgleklkaiaaDoor.Wr
open Go.RowKit Lm Cu Sl
theorem bM.grown {w wr w':World} {l:List (Nat×Array Value×TypeId)} {r:Option Nat} (h:bM w wr l) (hg:wr.grownBy w' r) (hne:∀ e∈l,some e.1≠r) (hb:Below w.heap.size w w'):bM w w' l:=by
 refine ⟨fun i g c t hi=>?_,h.inj,hb⟩
 obtain ⟨h1,h2⟩:=h.mem i g c t hi
 refine ⟨?_,h2⟩
 rw [hg.block g (h.lt i hi) (hne _ (List.mem_of_getElem? hi))]
 exact h1
theorem Ic (key info:List Int) (a2:Addr) (nb cb:Nat) (w:World) (hkl:key.length=32) (hb:bytes key) (hB:Src w (some a2) nb info) (bB:bytes info) (hN:nb≤1000000) (hk:Ha.eP w) :
  Calls Tryd.prog 74 #[.agg (arr .u8 key), .slice (some a2) nb cb, .int .i64 32] w fun e w'=>∃ v,e = .returned v∧aU w' w.heap.size v (KS key (info ++ [1]))∧Below w.heap.size w w':=by
 have hl:=hB.len
 have hms:=fun (g:Addr) (s:Addr) (c:Nat) (u:World) (h1:Src u (some g) 32 key) (h2:Src u (some s) (nb+1) (info ++ [1])) (h3:Ha.eP u)=>Ib key (info ++ [1]) g 32 32 s (nb+1) c u h1 hb (by decide) h2 (gX bB (by intro x hx;simp only [List.mem_singleton] at hx;subst hx;decide)) (by omega) (by omega) h3
 obtain ⟨h1,yN⟩:∃ x,x=KS key (info ++ [1]):=⟨_,rfl⟩
 rw [← yN] at hms ⊢
 have xO:Hid (h1.length=32):=acD (by rw [yN];exact Fa _ _)
 have F3:=acD hms
 have HS:=acD hB
 have wG:=acD hk
 have kU:=acD hkl
 have HL:=acD hl
 have HNB:=acD hN
 obtain ⟨zn,hzn⟩:∃ zs:List Int,zs=List.replicate 32 0:=⟨_,rfl⟩
 have dA:Hid (∀ w,(zeroValue 23).run Tryd.prog w = .ok (.agg (arr .u8 zn)) w):=acD (by intro w;rw [hzn];exact zero_num w)
 have cK:Hid (zn.length=32):=acD (by rw [hzn];rfl)
 have HI0:=acD (bM.one w (arr .u8 key) 23)
 clear yN hms hB hzn hb bB hN hk hkl hl
 go_enter Tryd.func74, Tryd.ntmps74
 go_wp2_with fail
 go_loopw [7,8,9] (fun v7 v8 v9 wr=>(v9 = .int .i64 1∧v7 = .slice none 0 0∧v8 = .slice none 0 0∧bM w wr [(w.heap.size,arr .u8 key, 23)])∨(v9 = .int .i64 2∧aU wr w.heap.size v7 h1∧Below w.heap.size w wr)) (fun _ _ v9 _=>(3 - intOf v9).toNat)
 case atStart=>exact Or.inl ⟨rfl,rfl,rfl,HI0.out⟩
 clear HI0
 case round =>
 rcases hrel with ⟨rfl,rfl,rfl,hB⟩|⟨rfl,ho,hbl⟩
 rotate_left
 ·have hq:=ho.form
  obtain ⟨sa,c,rfl,hcc,hcm,hsr,hor⟩:=hq
  rw [xO.out] at hcc hsr ⊢
  have xJ:=acD hsr
  have q8:=acD hbl
  have hc1:¬ (c:Int) < 32:=by omega
  have hsa:∃ g,sa=some ⟨g,0,none⟩:=by
   rcases hor with ⟨-, h0, -⟩|⟨g,rfl, -, -⟩
   ·have:=xO.out
    rw [h0] at this
    exact absurd this (by decide)
   ·exact ⟨g,rfl⟩
  obtain ⟨g,rfl⟩:=hsa
  clear ho hsr hbl hcm hor
  go_wp2_with (first|((with_reducible refine aS 38 ?_);refine aR rfl (.const (.slice none 0 0)) (.tmp 37) rfl wr.heap.size _ [] rfl (aU.nil _ _) _ 32 c h1 rfl xJ.out (by decide) (acE _) ?_;rw [acG];intro v9 w9 how hgr _ _;have dF:=aQ (aU.nil wr wr.heap.size) hgr (Below.refl _ _) (acE _);have GL:=acD (how.mono q8.out.size);have kW:=acD (q8.out.trans (dF.mono q8.out.size));clear how hgr dF))
  (try simp only [Exit.then])
  go_ret
  exact ⟨v9,rfl,GL.out,kW.out⟩
 have HB:=acD hB
 clear hB
 go_upto_region 7 with (first|((with_reducible refine aS 19 ?_);refine aR rfl (.const (.slice none 0 0)) (.tmp 18) rfl wr.heap.size _ [] rfl (aU.nil _ _) none 0 0 [] rfl ⟨rfl,fun i hi=>absurd hi (by simp)⟩ (by decide) (acE _) ?_;intro vz wz how hgr hnn _;obtain rfl:=hnn.2 ⟨rfl,rfl⟩;have hbz:=aQ (aU.nil wr wr.heap.size) hgr (Below.refl _ _) (acE _);have HIz:=acD (HB.out.kept hbz);have xI:=acD hbz.size;clear how hgr hbz)|((with_reducible refine aS 21 ?_);refine aR rfl (.tmp 19) (.tmp 20) rfl wz.heap.size _ [] rfl (aU.nil _ _) (some a2) nb cb info rfl (HS.out.below HIz.out.below) (by have:=HNB.out;simp;omega) (acE _) ?_;rw [acG];intro vb wb how hgr _ _;have hbb:=aQ (aU.nil wz wz.heap.size) hgr (Below.refl _ _) (acE _);have HI1:=acD (HIz.out.kept hbb);have HOB:=acD how;have HWZ:=acD (show wz.heap.size≤wb.heap.size from hbb.size);have HKZ:=acD (HIz.out.lt 0 rfl);clear how hgr hbb))
 (try simp only [World.size_alloc,Act.put,sA,sZ,sS])
 refine wp_region_held_drew (S:=fun _=>True) (by kernel_rfl) trivial (fun hHeld=>?_)
 have eB:=acD (HI1.out.drew)
 have HOd:Hid (aU wb.drew wz.heap.size vb info):=acD HOB.out.drew
 have HWd:Hid (wz.heap.size≤wb.drew.heap.size):=HWZ
 generalize wb.drew=wd at eB HOd HWd ⊢
 refine wpAnyH_take (i:=0) (oi:=(⟨some 22,_,_,_,_,none⟩:Oper)) (v := .slice (some ⟨w.heap.size,0,none⟩) 32 32) rfl (by kernel_rfl) (by kernel_rfl) (by kernel_rfl) (fun _ _ _ h=>h) (Or.inl ⟨by rfl,?hy6701⟩) trivial ?rest6701
 case hy6701=>(intro w _;(try dsimp only);go_simp;try (with_reducible rfl))
 (try simp only [Act.put,sA,sZ,sS])
 refine wpAnyH_take (i:=1) (oi:=(⟨some 23,_,_,_,_,none⟩:Oper)) (v:=vb) rfl (by kernel_rfl) (by kernel_rfl) (by kernel_rfl) (fun _ _ _ h=>h) (Or.inl ⟨by rfl,?hy6702⟩) trivial ?rest6702
 case hy6702=>(intro w _;(try dsimp only);first|rfl|kernel_rfl)
 (try simp only [Act.put,sA,sZ,sS])
 refine wpAnyH_take (i:=2) (oi:=(⟨some 24,_,_,_,_,none⟩:Oper)) (v := .int .i64 1) rfl (by kernel_rfl) (by kernel_rfl) (by kernel_rfl) (fun _ _ _ h=>h) (Or.inl ⟨by rfl,?hy6703⟩) trivial ?rest6703
 case hy6703=>(intro w _;(try dsimp only);first|rfl|kernel_rfl)
 (try simp only [Act.put,sA,sZ,sS])
 refine wpAnyH_take (i:=3) (oi:=(⟨some 25,_,_,_,_,none⟩:Oper)) (v := .int .i64 1) rfl (by kernel_rfl) (by kernel_rfl) (by kernel_rfl) (fun _ _ _ h=>h) (Or.inl ⟨by rfl,?hy6704⟩) trivial ?rest6704
 case hy6704=>(intro w _;(try dsimp only);first|rfl|kernel_rfl|(go_simp;done))
 (try simp only [Act.put,sA,sZ,sS])
 refine wpAnyH_take (i:=4) (oi:=(⟨some 26,_,_,_,_,none⟩:Oper)) (v := .int .u8 1) rfl (by kernel_rfl) (by kernel_rfl) (by kernel_rfl) (fun _ _ _ h=>h) (Or.inl ⟨by rfl,?hy6705⟩) trivial ?rest6705
 case hy6705=>(intro w _;(try dsimp only);first|rfl|kernel_rfl|(go_simp;done))
 (try simp only [Act.put,sA,sZ,sS])
 refine wpAnyH_ready (rs:=[5,8]) (by kernel_rfl) (by simp) ?_
 refine AllReadyH.cons (o:=(⟨some 27,_,_,_,_,none⟩:Oper)) rfl (fun K hK=>?_) ?_
 ·go_simp
  have HY1:=acD (eB.out.alloc (arr .u8 [1]) 5)
  have Ul:=acD (HOd.out.alloc (.cells (arr .u8 [1]) 5))
  have HW1:Hid (wz.heap.size≤(wd.alloc (.cells (arr .u8 [1]) 5)).heap.size):=acD (acF HWd.out (by simp))
  have qH:Hid (∀ k,vb.ownBlock=some k→k < wd.heap.size):=acD (fun k h=>(HOd.out.lt k h).2)
  rw [show (#[.int .u8 1]:Array Value)=arr .u8 [1] from rfl]
  generalize wd.heap.size=gk at HY1 qH ⊢
  generalize wd.alloc (.cells (arr .u8 [1]) 5)=y1 at HY1 Ul HW1 ⊢
  refine hK.out _ _ trivial (fun _=>?_)
  clear hK K
  (try simp only [Act.put,sA,sZ,sS])
  refine wpAnyH_ready (rs:=[6,8]) (by kernel_rfl) (by simp) ?_
  refine AllReadyH.cons (o:=(⟨some 28,_,_,_,_,none⟩:Oper)) rfl (fun K hK=>?_) ?_
  ·refine d9 rfl (.tmp 23) (.tmp 27) rfl wz.heap.size vb info rfl Ul.out _ 1 1 [1] rfl (bO (HY1.out.get 1 rfl) 1 rfl) (by have:=HL.out;have:=HNB.out;omega) HW1.out ?_
   intro v2 y2 how hgr _ _
   have hbe:Below w.heap.size w y2:=aQ (Ul.out.mono (acF (acI HKZ.out) (acE _))) hgr HY1.out.below HY1.out.below.size
   have HY2:=acD (bM.grown HY1.out hgr (by
    intro e he
    simp only [acJ,acK,acL,or_false,acM,acG] at he
    intro e2
    have hlt:=Ul.out.lt e.1 e2.symm
    have hkz:=HKZ.out
    have hgk:=qH.out e.1 e2.symm
    rcases he with rfl|rfl <;> simp only at hlt hkz hgk <;> omega) hbe)
   have HO2_:=acD how
   have HW2:Hid (wz.heap.size≤y2.heap.size):=acD (acF HW1.out hgr.size)
   clear how hgr hbe
   refine hK.out _ _ trivial (fun _=>?_)
   clear hK K
   (try simp only [Act.put,sA,sZ,sS])
   refine wpAnyH_ready (rs:=[7,8]) (by kernel_rfl) (by simp) ?_
   refine AllReadyH.cons (o:=(⟨some 29,_,_,_,_,none⟩:Oper)) rfl (fun K hK=>?_) ?_
   ·have hfm:=HO2_.out.form
    obtain ⟨sm,cm,rfl, -, -, hsm,Xy⟩:=hfm
    obtain ⟨gm,rfl⟩:∃ g,sm=some ⟨g,0,none⟩:=by
     rcases Xy with ⟨-, h0, -⟩|⟨g,rfl, -, -⟩
     ·exact absurd h0 (by simp)
     ·exact ⟨g,rfl⟩
    rw [acH,HL.out,show ([1]:List Int).length=1 from rfl] at hsm ⊢
    go_simp
    go_at_call 93
    refine (F3.out _ _ _ _ (bO (HY2.out.get 0 rfl) 32 kU.out) hsm (dJ wG.out HY2.out.below)).mono ?_
    rintro e y3 ⟨rfl,dF⟩
    have HY3:=acD (HY2.out.kept dF)
    have HO3_:=acD (HO2_.out.below dF)
    have HW3:Hid (wz.heap.size≤y3.heap.size):=acD (acF HW2.out dF.size)
    clear dF hsm Xy
    (try dsimp only)
    refine hK.out _ _ trivial (fun _=>?_)
    clear hK K
    (try simp only [Act.put,sA,sZ,sS])
    refine wpAnyH_ready (rs:=[8]) (by kernel_rfl) (by simp) ?_
    refine AllReadyH.cons (o:=(⟨some 11,_,_,_,_,none⟩:Oper)) rfl (fun K hK=>?_) AllReadyH.nil
    refine bg rfl 23 rfl _ (dA.out _) ?_
    have HY4:=acD (HY3.out.alloc (arr .u8 zn) 23)
    have HO4_:=acD (HO3_.out.alloc (.cells (arr .u8 zn) 23))
    have HW4:Hid (wz.heap.size≤(y3.alloc (.cells (arr .u8 zn) 23)).heap.size):=acD (acF HW3.out (by simp))
    generalize y3.heap.size=g11 at HY4 ⊢
    generalize y3.alloc (.cells (arr .u8 zn) 23)=y4 at HY4 HO4_ HW4 ⊢
    refine hK.out _ _ trivial (fun _=>?_)
    clear hK K
    (try simp only [Act.put,sA,sZ,sS])
    refine wpAnyH_ready (rs:=[9]) (by kernel_rfl) (by simp) ?_
    refine AllReadyH.cons (o:=(⟨none,_,_,_,_,none⟩:Oper)) rfl (fun K hK=>?_) AllReadyH.nil
    refine aH rfl 23 (.tmp 11) (.tmp 29) rfl g11 _ _ 23 (HY4.out.get 2 rfl) rfl rfl (ay _ _ xO.out cK.out) (bE xO.out) (av _ _) ?_
    intro y5 dF nY KZ
    have HY5:=acD (HY4.out.put 2 rfl nY dF)
    clear dF nY KZ
    refine hK.out _ _ trivial (fun _=>?_)
    clear hK K
    (try simp only [Act.put,sA,sZ,sS])
    refine wpAnyH_done (by kernel_rfl) ?_ _
    (try simp only [Exit.then])
    go_wp2_with (first|((with_reducible refine aS 31 ?_);refine aR rfl (.const (.slice none 0 0)) (.tmp 30) rfl (y5).heap.size _ [] rfl (aU.nil _ _) _ 32 32 h1 rfl (bO (HY5.out.get 2 rfl) 32 xO.out) (by decide) (acE _) ?_;rw [acG];intro vt wt how hgr _ _;have hbt:=aQ (aU.nil (y5) (y5).heap.size) hgr (Below.refl _ _) (acE _);have HIt:=acD (HY5.out.kept hbt);have HOT:=acD how;clear how hgr hbt)|((with_reducible refine aS 34 ?_);obtain ⟨st_,ct_,rfl, -, -, hst, -⟩:=HOT.out.form;refine aR rfl (.tmp 32) (.tmp 33) rfl wt.heap.size _ [] rfl (aU.nil _ _) st_ _ ct_ h1 rfl hst (by rw [xO.out];decide) (acE _) ?_;rw [acG];intro v7 w7 how hgr _ _;have dR:=aQ (aU.nil wt wt.heap.size) hgr (Below.refl _ _) (acE _);have HO7:=acD (how.mono HIt.out.below.size);have eG:=acD (HIt.out.kept dR).below;clear how hgr dR hst))
    go_roundw
    case rel=>exact Or.inr ⟨rfl,HO7.out,eG.out⟩
    case measure=>simp [intOf]
   refine AllReadyH.cons (o:=(⟨some 11,_,_,_,_,none⟩:Oper)) rfl (fun K hK=>?_) AllReadyH.nil
   refine bg rfl 23 rfl _ (dA.out _) ?_
   have HY6:=acD (HY2.out.alloc (arr .u8 zn) 23)
   have HO6_:=acD (HO2_.out.alloc (.cells (arr .u8 zn) 23))
   have Uy:Hid (wz.heap.size≤(y2.alloc (.cells (arr .u8 zn) 23)).heap.size):=acD (acF HW2.out (by simp))
   generalize y2.heap.size=g11 at HY6 ⊢
   generalize y2.alloc (.cells (arr .u8 zn) 23)=y6 at HY6 HO6_ Uy ⊢
   refine hK.out _ _ trivial (fun _=>?_)
   clear hK K
   (try simp only [Act.put,sA,sZ,sS])
   refine wpAnyH_ready (rs:=[7]) (by kernel_rfl) (by simp) ?_
   refine AllReadyH.cons (o:=(⟨some 29,_,_,_,_,none⟩:Oper)) rfl (fun K hK=>?_) AllReadyH.nil
   have hfm:=HO6_.out.form
   obtain ⟨sm,cm,rfl, -, -, hsm,Xy⟩:=hfm
   obtain ⟨gm,rfl⟩:∃ g,sm=some ⟨g,0,none⟩:=by
    rcases Xy with ⟨-, h0, -⟩|⟨g,rfl, -, -⟩
    ·exact absurd h0 (by simp)
    ·exact ⟨g,rfl⟩
   rw [acH,HL.out,show ([1]:List Int).length=1 from rfl] at hsm ⊢
   go_simp
   go_at_call 93
   refine (F3.out _ _ _ _ (bO (HY6.out.get 0 rfl) 32 kU.out) hsm (dJ wG.out HY6.out.below)).mono ?_
   rintro e y7 ⟨rfl,dF⟩
   have HY7:=acD (HY6.out.kept dF)
   have HO7_:=acD (HO6_.out.below dF)
   have HW7:Hid (wz.heap.size≤y7.heap.size):=acD (acF Uy.out dF.size)
   clear dF hsm Xy
   (try dsimp only)
   refine hK.out _ _ trivial (fun _=>?_)
   clear hK K
   (try simp only [Act.put,sA,sZ,sS])
   refine wpAnyH_ready (rs:=[9]) (by kernel_rfl) (by simp) ?_
   refine AllReadyH.cons (o:=(⟨none,_,_,_,_,none⟩:Oper)) rfl (fun K hK=>?_) AllReadyH.nil
   refine aH rfl 23 (.tmp 11) (.tmp 29) rfl g11 _ _ 23 (HY7.out.get 2 rfl) rfl rfl (ay _ _ xO.out cK.out) (bE xO.out) (av _ _) ?_
   intro y8 dF nY KZ
   have HY8:=acD (HY7.out.put 2 rfl nY dF)
   clear dF nY KZ
   refine hK.out _ _ trivial (fun _=>?_)
   clear hK K
   (try simp only [Act.put,sA,sZ,sS])
   refine wpAnyH_done (by kernel_rfl) ?_ _
   (try simp only [Exit.then])
   go_wp2_with (first|((with_reducible refine aS 31 ?_);refine aR rfl (.const (.slice none 0 0)) (.tmp 30) rfl (y8).heap.size _ [] rfl (aU.nil _ _) _ 32 32 h1 rfl (bO (HY8.out.get 2 rfl) 32 xO.out) (by decide) (acE _) ?_;rw [acG];intro vt wt how hgr _ _;have hbt:=aQ (aU.nil (y8) (y8).heap.size) hgr (Below.refl _ _) (acE _);have HIt:=acD (HY8.out.kept hbt);have HOT:=acD how;clear how hgr hbt)|((with_reducible refine aS 34 ?_);obtain ⟨st_,ct_,rfl, -, -, hst, -⟩:=HOT.out.form;refine aR rfl (.tmp 32) (.tmp 33) rfl wt.heap.size _ [] rfl (aU.nil _ _) st_ _ ct_ h1 rfl hst (by rw [xO.out];decide) (acE _) ?_;rw [acG];intro v7 w7 how hgr _ _;have dR:=aQ (aU.nil wt wt.heap.size) hgr (Below.refl _ _) (acE _);have HO7:=acD (how.mono HIt.out.below.size);have eG:=acD (HIt.out.kept dR).below;clear how hgr dR hst))
   go_roundw
   case rel=>exact Or.inr ⟨rfl,HO7.out,eG.out⟩
   case measure=>simp [intOf]
  refine AllReadyH.cons (o:=(⟨some 11,_,_,_,_,none⟩:Oper)) rfl (fun K hK=>?_) AllReadyH.nil
  refine bg rfl 23 rfl _ (dA.out _) ?_
  have HY9:=acD (HY1.out.alloc (arr .u8 zn) 23)
  have HO9_:=acD (Ul.out.alloc (.cells (arr .u8 zn) 23))
  have Ux:Hid (wz.heap.size≤(y1.alloc (.cells (arr .u8 zn) 23)).heap.size):=acD (acF HW1.out (by simp))
  have HG9:Hid (∀ k,vb.ownBlock=some k→k < y1.heap.size):=acD (fun k h=>(Ul.out.lt k h).2)
  generalize y1.heap.size=g11 at HY9 HG9 ⊢
  generalize y1.alloc (.cells (arr .u8 zn) 23)=y9 at HY9 HO9_ Ux ⊢
  refine hK.out _ _ trivial (fun _=>?_)
  clear hK K
  (try simp only [Act.put,sA,sZ,sS])
  refine wpAnyH_ready (rs:=[6]) (by kernel_rfl) (by simp) ?_
  refine AllReadyH.cons (o:=(⟨some 28,_,_,_,_,none⟩:Oper)) rfl (fun K hK=>?_) AllReadyH.nil
  refine d9 rfl (.tmp 23) (.tmp 27) rfl wz.heap.size vb info rfl HO9_.out _ 1 1 [1] rfl (bO (HY9.out.get 1 rfl) 1 rfl) (by have:=HL.out;have:=HNB.out;omega) Ux.out ?_
  intro v2 y10 how hgr _ _
  have hbe:Below w.heap.size w y10:=aQ (HO9_.out.mono (acF (acI HKZ.out) (acE _))) hgr HY9.out.below HY9.out.below.size
  have HY10:=acD (bM.grown HY9.out hgr (by
   intro e he
   simp only [acJ,acK,acL,or_false,acM,acG] at he
   intro e2
   have hlt:=HO9_.out.lt e.1 e2.symm
   have hkz:=HKZ.out
   have hgk:=qH.out e.1 e2.symm
   have hg11:=HG9.out e.1 e2.symm
   rcases he with rfl|rfl|rfl <;> simp only at hlt hkz hgk hg11 <;> omega) hbe)
  have HO10_:=acD how
  have Ug:Hid (wz.heap.size≤y10.heap.size):=acD (acF Ux.out hgr.size)
  clear how hgr hbe
  refine hK.out _ _ trivial (fun _=>?_)
  clear hK K
  (try simp only [Act.put,sA,sZ,sS])
  refine wpAnyH_ready (rs:=[7]) (by kernel_rfl) (by simp) ?_
  refine AllReadyH.cons (o:=(⟨some 29,_,_,_,_,none⟩:Oper)) rfl (fun K hK=>?_) AllReadyH.nil
  have hfm:=HO10_.out.form
  obtain ⟨sm,cm,rfl, -, -, hsm,Xy⟩:=hfm
  obtain ⟨gm,rfl⟩:∃ g,sm=some ⟨g,0,none⟩:=by
   rcases Xy with ⟨-, h0, -⟩|⟨g,rfl, -, -⟩
   ·exact absurd h0 (by simp)
   ·exact ⟨g,rfl⟩
  rw [acH,HL.out,show ([1]:List Int).length=1 from rfl] at hsm ⊢
  go_simp
  go_at_call 93
  refine (F3.out _ _ _ _ (bO (HY10.out.get 0 rfl) 32 kU.out) hsm (dJ wG.out HY10.out.below)).mono ?_
  rintro e y11 ⟨rfl,dF⟩
  have HY11:=acD (HY10.out.kept dF)
  have HO11_:=acD (HO10_.out.below dF)
  have HW11:Hid (wz.heap.size≤y11.heap.size):=acD (acF Ug.out dF.size)
  clear dF hsm Xy
  (try dsimp only)
  refine hK.out _ _ trivial (fun _=>?_)
  clear hK K
  (try simp only [Act.put,sA,sZ,sS])
  refine wpAnyH_ready (rs:=[9]) (by kernel_rfl) (by simp) ?_
  refine AllReadyH.cons (o:=(⟨none,_,_,_,_,none⟩:Oper)) rfl (fun K hK=>?_) AllReadyH.nil
  refine aH rfl 23 (.tmp 11) (.tmp 29) rfl g11 _ _ 23 (HY11.out.get 2 rfl) rfl rfl (ay _ _ xO.out cK.out) (bE xO.out) (av _ _) ?_
  intro y12 dF nY KZ
  have HY12:=acD (HY11.out.put 2 rfl nY dF)
  clear dF nY KZ
  refine hK.out _ _ trivial (fun _=>?_)
  clear hK K
  (try simp only [Act.put,sA,sZ,sS])
  refine wpAnyH_done (by kernel_rfl) ?_ _
  (try simp only [Exit.then])
  go_wp2_with (first|((with_reducible refine aS 31 ?_);refine aR rfl (.const (.slice none 0 0)) (.tmp 30) rfl (y12).heap.size _ [] rfl (aU.nil _ _) _ 32 32 h1 rfl (bO (HY12.out.get 2 rfl) 32 xO.out) (by decide) (acE _) ?_;rw [acG];intro vt wt how hgr _ _;have hbt:=aQ (aU.nil (y12) (y12).heap.size) hgr (Below.refl _ _) (acE _);have HIt:=acD (HY12.out.kept hbt);have HOT:=acD how;clear how hgr hbt)|((with_reducible refine aS 34 ?_);obtain ⟨st_,ct_,rfl, -, -, hst, -⟩:=HOT.out.form;refine aR rfl (.tmp 32) (.tmp 33) rfl wt.heap.size _ [] rfl (aU.nil _ _) st_ _ ct_ h1 rfl hst (by rw [xO.out];decide) (acE _) ?_;rw [acG];intro v7 w7 how hgr _ _;have dR:=aQ (aU.nil wt wt.heap.size) hgr (Below.refl _ _) (acE _);have HO7:=acD (how.mono HIt.out.below.size);have eG:=acD (HIt.out.kept dR).below;clear how hgr dR hst))
  go_roundw
  case rel=>exact Or.inr ⟨rfl,HO7.out,eG.out⟩
  case measure=>simp [intOf]
 refine AllReadyH.cons (o:=(⟨some 11,_,_,_,_,none⟩:Oper)) rfl (fun K hK=>?_) AllReadyH.nil
 refine bg rfl 23 rfl _ (dA.out _) ?_
 have HY13:=acD (eB.out.alloc (arr .u8 zn) 23)
 have HO13_:=acD (HOd.out.alloc (.cells (arr .u8 zn) 23))
 have HW13:Hid (wz.heap.size≤(wd.alloc (.cells (arr .u8 zn) 23)).heap.size):=acD (acF HWd.out (by simp))
 have HG13:Hid (∀ k,vb.ownBlock=some k→k < wd.heap.size):=acD (fun k h=>(HOd.out.lt k h).2)
 generalize wd.heap.size=g11 at HY13 HG13 ⊢
 generalize wd.alloc (.cells (arr .u8 zn) 23)=y13 at HY13 HO13_ HW13 ⊢
 refine hK.out _ _ trivial (fun _=>?_)
 clear hK K
 (try simp only [Act.put,sA,sZ,sS])
 refine wpAnyH_ready (rs:=[5]) (by kernel_rfl) (by simp) ?_
 refine AllReadyH.cons (o:=(⟨some 27,_,_,_,_,none⟩:Oper)) rfl (fun K hK=>?_) AllReadyH.nil
 go_simp
 have Ue:=acD (HY13.out.alloc (arr .u8 [1]) 5)
 have QK:=acD (HO13_.out.alloc (.cells (arr .u8 [1]) 5))
 have HW14:Hid (wz.heap.size≤(y13.alloc (.cells (arr .u8 [1]) 5)).heap.size):=acD (acF HW13.out (by simp))
 have HG14:Hid (∀ k,vb.ownBlock=some k→k < y13.heap.size):=acD (fun k h=>(HO13_.out.lt k h).2)
 rw [show (#[.int .u8 1]:Array Value)=arr .u8 [1] from rfl]
 generalize y13.heap.size=gk at Ue HG14 ⊢
 generalize y13.alloc (.cells (arr .u8 [1]) 5)=y14 at Ue QK HW14 ⊢
 refine hK.out _ _ trivial (fun _=>?_)
 clear hK K
 (try simp only [Act.put,sA,sZ,sS])
 refine wpAnyH_ready (rs:=[6]) (by kernel_rfl) (by simp) ?_
 refine AllReadyH.cons (o:=(⟨some 28,_,_,_,_,none⟩:Oper)) rfl (fun K hK=>?_) AllReadyH.nil
 refine d9 rfl (.tmp 23) (.tmp 27) rfl wz.heap.size vb info rfl QK.out _ 1 1 [1] rfl (bO (Ue.out.get 2 rfl) 1 rfl) (by have:=HL.out;have:=HNB.out;omega) HW14.out ?_
 intro v2 y15 how hgr _ _
 have hbe:Below w.heap.size w y15:=aQ (QK.out.mono (acF (acI HKZ.out) (acE _))) hgr Ue.out.below Ue.out.below.size
 have HY15:=acD (bM.grown Ue.out hgr (by
  intro e he
  simp only [acJ,acK,acL,or_false,acM,acG] at he
  intro e2
  have hlt:=QK.out.lt e.1 e2.symm
  have hkz:=HKZ.out
  have hgk:=HG14.out e.1 e2.symm
  have hg11:=HG13.out e.1 e2.symm
  rcases he with rfl|rfl|rfl <;> simp only at hlt hkz hgk hg11 <;> omega) hbe)
 have HO15_:=acD how
 have HW15:Hid (wz.heap.size≤y15.heap.size):=acD (acF HW14.out hgr.size)
 clear how hgr hbe
 refine hK.out _ _ trivial (fun _=>?_)
 clear hK K
 (try simp only [Act.put,sA,sZ,sS])
 refine wpAnyH_ready (rs:=[7]) (by kernel_rfl) (by simp) ?_
 refine AllReadyH.cons (o:=(⟨some 29,_,_,_,_,none⟩:Oper)) rfl (fun K hK=>?_) AllReadyH.nil
 have hfm:=HO15_.out.form
 obtain ⟨sm,cm,rfl, -, -, hsm,Xy⟩:=hfm
 obtain ⟨gm,rfl⟩:∃ g,sm=some ⟨g,0,none⟩:=by
  rcases Xy with ⟨-, h0, -⟩|⟨g,rfl, -, -⟩
  ·exact absurd h0 (by simp)
  ·exact ⟨g,rfl⟩
 rw [acH,HL.out,show ([1]:List Int).length=1 from rfl] at hsm ⊢
 go_simp
 go_at_call 93
 refine (F3.out _ _ _ _ (bO (HY15.out.get 0 rfl) 32 kU.out) hsm (dJ wG.out HY15.out.below)).mono ?_
 rintro e y16 ⟨rfl,dF⟩
 have HY16:=acD (HY15.out.kept dF)
 have HO16_:=acD (HO15_.out.below dF)
 have HW16:Hid (wz.heap.size≤y16.heap.size):=acD (acF HW15.out dF.size)
 clear dF hsm Xy
 (try dsimp only)
 refine hK.out _ _ trivial (fun _=>?_)
 clear hK K
 (try simp only [Act.put,sA,sZ,sS])
 refine wpAnyH_ready (rs:=[9]) (by kernel_rfl) (by simp) ?_
 refine AllReadyH.cons (o:=(⟨none,_,_,_,_,none⟩:Oper)) rfl (fun K hK=>?_) AllReadyH.nil
 refine aH rfl 23 (.tmp 11) (.tmp 29) rfl g11 _ _ 23 (HY16.out.get 1 rfl) rfl rfl (ay _ _ xO.out cK.out) (bE xO.out) (av _ _) ?_
 intro y17 dF nY KZ
 have HY17:=acD (HY16.out.put 1 rfl nY dF)
 clear dF nY KZ
 refine hK.out _ _ trivial (fun _=>?_)
 clear hK K
 (try simp only [Act.put,sA,sZ,sS])
 refine wpAnyH_done (by kernel_rfl) ?_ _
 (try simp only [Exit.then])
 go_wp2_with (first|((with_reducible refine aS 31 ?_);refine aR rfl (.const (.slice none 0 0)) (.tmp 30) rfl (y17).heap.size _ [] rfl (aU.nil _ _) _ 32 32 h1 rfl (bO (HY17.out.get 1 rfl) 32 xO.out) (by decide) (acE _) ?_;rw [acG];intro vt wt how hgr _ _;have hbt:=aQ (aU.nil (y17) (y17).heap.size) hgr (Below.refl _ _) (acE _);have HIt:=acD (HY17.out.kept hbt);have HOT:=acD how;clear how hgr hbt)|((with_reducible refine aS 34 ?_);obtain ⟨st_,ct_,rfl, -, -, hst, -⟩:=HOT.out.form;refine aR rfl (.tmp 32) (.tmp 33) rfl wt.heap.size _ [] rfl (aU.nil _ _) st_ _ ct_ h1 rfl hst (by rw [xO.out];decide) (acE _) ?_;rw [acG];intro v7 w7 how hgr _ _;have dR:=aQ (aU.nil wt wt.heap.size) hgr (Below.refl _ _) (acE _);have HO7:=acD (how.mono HIt.out.below.size);have eG:=acD (HIt.out.kept dR).below;clear how hgr dR hst))
 go_roundw
 case rel=>exact Or.inr ⟨rfl,HO7.out,eG.out⟩
 case measure=>simp [intOf]
end Go.Proofs.YthdgbgleklkaiaaDoor.Wr
