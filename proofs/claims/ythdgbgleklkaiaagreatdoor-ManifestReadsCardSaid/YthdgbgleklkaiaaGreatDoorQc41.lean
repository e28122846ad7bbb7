/- The document's (Set).Manifest. Condition: as each theorem says. -/

import Derived.Test.YthdgbgleklkaiaaGreatDoorQc36
import Derived.Test.YthdgbgleklkaiaaGreatDoorQc37
import Derived.Test.YthdgbgleklkaiaaGreatDoorQc38
import Derived.Test.YthdgbgleklkaiaaGreatDoorQc39
import Derived.Test.YthdgbgleklkaiaaGreatDoorQc40
open Go.Lib renaming hid→abC
open List renaming length_map→abD,replicate→abG
open Nat renaming lt_of_lt_of_le→abE,le_of_lt→abF
set_option linter.unusedSimpArgs false
set_option linter.unusedVariables false
set_option maxRecDepth 100000
set_option maxHeartbeats 16000000
namespace Go.Proofs.YthdgbgleklkaiaaGreatDoor.Ms
open Go.RowKit Lm Fp Cu Sl Sc Ce
theorem _root_.Go.Proofs.YthdgbgleklkaiaaGreatDoor.dV.keptB {T:Nat→Prop} {w w':World} {B:Nat} {v:Value} {L:List (List Int)} (h:dV w B v L) (k:Kept T w w') (hT:∀ g,B≤g→¬ T g):dV w' B v L:=by
 obtain ⟨vs,h1,h2,h3⟩:=h
 exact ⟨vs,nP h1 k (fun g hg=>hT g (World.ownsRow.lt h1 g hg).1),h2,fun i hi=>(h3 i hi).kept k (fun g hg _=>hT g hg)⟩
theorem WU {m:Sem Value} {v:Value} {w w':World} (h:m.run Tryz.prog w = .ok v w'):(do pure (Next.value (← m)):Sem Next).run Tryz.prog w = .ok (.value v) w':=by
 rw [Sem.run_bind,h]
 rfl
theorem size_set (w:World):(Tryz.prog.info? 42).map (·.size)=some 128:=by kernel_rfl
theorem Sr {k0 k1 k2 k3 K pk tk dk ws R sg:List Int} {CC:Array Value} {L:List (List Int)} (id v:Int) (sp:Option Addr) (n cp:Nat) (w:World) (h0:k0.length=32) (h1:k1.length=32) (h2:k2.length=32) (h3:k3.length=32)
  (hK:K.length=32) (hCs:CC.size=97) (hC1:CC.all (·.oneCell')=true)
  (hKO:∀ u,Below w.heap.size w u→Calls Tryz.prog 55 #[.agg (kX k0 k1 k2 k3), .int .i64 v] u fun e w'=>e = .returned (.agg (arr .u8 K))∧Below u.heap.size u w')
  (hMK:∀ u,Below w.heap.size w u→Calls Tryz.prog 56 #[.agg (arr .u8 K), .int .i64 v, .slice sp n cp] u fun e w'=>∃ lv,e = .returned (.tuple #[lv, .int .i64 0])∧dV w' u.heap.size lv L∧Below u.heap.size u w')
  (hPB:∀ u,Below w.heap.size w u→Calls Tryz.prog 33 #[.agg (arr .u8 k1)] u fun e w'=>e = .returned (.agg (arr .u8 pk))∧Below u.heap.size u w')
  (hSC:∀ u,Below w.heap.size w u→Calls Tryz.prog 57 #[.agg (arr .u8 k0), .int .i64 id, .agg (arr .u8 pk)] u fun e w'=>e = .returned (.tuple #[.agg CC, .int .i64 0])∧Below u.heap.size u w')
  (hLP:∀ u,Below w.heap.size w u→Calls Tryz.prog 59 #[.agg (arr .u8 k2)] u fun e w'=>e = .returned (.agg (arr .u8 tk))∧Below u.heap.size u w')
  (hSH:∀ u g,Below w.heap.size w u→Src u (some ⟨g,0,none⟩) 32 K→Calls Tryz.prog 16 #[.slice (some ⟨g,0,none⟩) 32 32] u fun e w'=>e = .returned (.agg (arr .u8 dk))∧Below u.heap.size u w')
  (hWR:∀ u,Below w.heap.size w u→Calls Tryz.prog 58 #[.agg (arr .u8 tk), .agg (arr .u8 dk), .agg (arr .u8 K)] u fun e w'=>(∃ sa c,e = .returned (.tuple #[.slice sa 80 c, .int .i64 0])∧Src w' sa 80 ws∧80≤c)∧Below u.heap.size u w')
  (M0 MS:Option Addr→Nat→Array Value) (PB:List Int) (hMS:∀ s c,(MS s c).size=196∧(MS s c).all (·.oneCell')=true)
  (hBM:∀ u s c,(Instr.build 31 #[(0, .int .i64 v),(1, .int .i64 L.length),(2, .agg (arr .u8 R)),(3, .slice s 80 c),(4, .agg CC)]).run Tryz.prog u = .ok (.agg (M0 s c)) u)
  (hRT:∀ u s c,Below w.heap.size w u→om u s L.length L→L.length≤c→Calls Tryz.prog 60 #[.slice s L.length c] u fun e w'=>e = .returned (.agg (arr .u8 R))∧Below u.heap.size u w')
  (hSM:∀ u s c,Below w.heap.size w u→Src u s 80 ws→Calls Tryz.prog 23 #[.agg (arr .u8 k1), .agg (M0 s c)] u fun e w'=>∃ s2 c2,e = .returned (.tuple #[.agg (MS s2 c2), .int .i64 0])∧aU w' u.heap.size (.slice s2 80 c2) ws∧Below u.heap.size u w')
  (hPM:∀ u s c,Below w.heap.size w u→Src u s 80 ws→Calls Tryz.prog 61 #[.agg (MS s c)] u fun e w'=>∃ vv,e = .returned (.tuple #[vv, .int .i64 0])∧aU w' u.heap.size vv PB∧Below u.heap.size u w') :
  Calls Tryz.prog 18 #[.agg (kX k0 k1 k2 k3), .int .i64 id, .int .i64 v, .slice sp n cp] w fun e w'=>∃ xv lv,e = .returned (.tuple #[xv,lv, .int .i64 0])∧aU w' w.heap.size xv PB∧dV w' w.heap.size lv L∧Below w.heap.size w w':=by
 have hpt:=uS h0 h1 h2 h3
 have HP0:=abC hpt.1
 have HP1:=abC hpt.2.1
 have Ej:=abC hpt.2.2.1
 have HKO:=abC hKO
 have HMK:=abC hMK
 have HPB:=abC hPB
 have HSC:=abC hSC
 have HLP:=abC hLP
 have UK:=abC hSH
 have HWR:=abC hWR
 have Gs:=abC hMS
 have HBM:=abC hBM
 have HRT:=abC hRT
 have UJ:=abC hSM
 have HPM:=abC hPM
 obtain ⟨mz,hmz⟩:∃ m,m=Mf.gI:=⟨_,rfl⟩
 have UD:Hid (∀ w,(zeroValue 31).run Tryz.prog w = .ok (.agg mz) w):=abC (by rw [hmz];exact Mf.jS)
 have HMZ:Hid (mz.size=196):=abC (by rw [hmz];exact Mf.bL rfl rfl rfl rfl)
 have Oj:Hid (∀ s c,(Tryz.prog.info? 31).map (·.size)=some (MS s c).size):=abC (fun s c=>by rw [(hMS s c).1];exact Mf.dU)
 have HCI:Hid ((Tryz.prog.info? 29).map (·.size)=some CC.size):=abC (by rw [hCs];exact kQ)
 have Oo:=abC h0
 have oH:=abC h1
 have HL2:=abC h2
 have lH:=abC hK
 have J8:=abC hCs
 have xB:=abC hC1
 have HSI:Hid ((Tryz.prog.info? 42).map (·.size)=some (kX k0 k1 k2 k3).size):=abC (by rw [Df h0 h1 h2 h3];exact size_set w)
 obtain ⟨zn,hzn,HZ,Kj⟩:=zN zero_num
 have HKI:Hid ((Tryz.prog.info? 25).map (·.size)=some (arr .u8 K).size):=abC (Sl.bG hK)
 have HKZ:Hid ((arr .u8 K).size=(arr .u8 zn).size):=abC (by rw [aD,aD,hK,Kj.out])
 have HKA:Hid ((arr .u8 K).all (·.oneCell')=true):=abC (ak _ _)
 obtain ⟨zc,hzc⟩:∃ c,c=dz 0 (abG 32 0) (abG 64 0):=⟨_,rfl⟩
 have U2:Hid (∀ w,(zeroValue 29).run Tryz.prog w = .ok (.agg zc) w):=abC (by intro w;rw [hzc];exact uM w)
 have HZS:Hid (zc.size=97):=abC (by rw [hzc];exact jO (by simp) (by simp))
 generalize kX k0 k1 k2 k3=SC at hpt HP0 HP1 Ej HKO HSI hKO ⊢
 have bW:=abC (bO.one w SC 42)
 clear hpt hKO hMK hPB hSC hLP hSH hWR hMS hBM hRT hSM hPM hmz h0 h1 h2 h3 hK hCs hC1 hzn hzc
 go_enter Tryz.func18, Tryz.ntmps18
 go_upto_region 1 with fail
 generalize w.alloc (.cells SC 42)=wb at bW ⊢
 go_upto_region 2 with (first|((with_reducible refine aS 18 ?_);refine wpList_load_row rfl 42 _ rfl (w.heap.size) rfl 42 _ (0,0) _ (bW.out.get 0 rfl) Tryz.underlying42 rfl HSI.out ?_)|((with_reducible show Calls _ 55 _ _ _);go_at_call 55; refine lC (HKO.out _ bW.out.below) bW ?_;intro w1 iY)|((with_reducible refine aS 11 ?_);refine lA rfl rfl (HZ.out _) iY ?_;intro g11 w2 HS2)|((with_reducible refine aT 11 ?_);refine lS rfl rfl HS2 1 rfl rfl rfl HKZ.out HKI.out HKA.out ?_;intro w3 Ef))
 (try simp only [World.size_alloc,Act.put,sA,sZ,sS])
 have HLO:Hid (w.heap.size < w3.heap.size∧g11 < w3.heap.size):=abC ⟨Ef.out.lt 0 rfl,Ef.out.lt 1 rfl⟩
 go_upto_region 5 with (first|((with_reducible refine aS 22 ?_);refine lL rfl rfl (Ef.out.get 1 rfl) rfl (aj _ _) Tryz.underlying25 rfl (Sl.bU lH.out) ?_)|((with_reducible show Calls _ 56 _ _ _);go_at_call 56; refine (HMK.out _ Ef.out.below).mono ?_;rintro e w4 ⟨lv,rfl,ho,hb⟩;have H9:=abC (Ef.out.kept hb);have HO:=abC ho;clear ho;clear hb))
 (try simp only [World.size_alloc,Act.put,sA,sZ,sS])
 generalize w3.heap.size=B0 at HLO HO
 refine gV (T:=fun g=>∃ e∈[(w.heap.size,SC, 42),(g11,arr .u8 K, 25)],e.1=g) (w:=w4) (sy:=[Yp (w.heap.size) 0,Yr .u8 k0,Yv (.int .i64 id),Yp (w.heap.size) 32,Yr .u8 k1,Yr .u8 pk,Yv (.tuple #[.agg CC, .int .i64 0]),Yv (.tuple #[.agg CC, .int .i64 0]),Yv (.agg CC),Yv (.int .i64 0),Yn zc 29, Y0,Yv (.int .i64 0)]) (pt:=[(11,12,Cj CC 29)]) (by kernel_rfl) (by kernel_rfl) (by kernel_rfl) H9.out.holdsT (fun hW=>?s5) (fun q5 x5 u5 _ hH=>?e5)
 case s5 =>
  refine jH hW ?_
  refine vM hW ?_ 0 0 SC 42 KJ Oo.out HP0.out
  refine jH hW ?_
  refine jH hW ?_
  refine vM hW ?_ 0 32 SC 42 KJ oH.out HP1.out
  refine SyD hW ?_ (vs:=[.agg (arr .u8 k1)]) (fun u k=>HPB.out u (H9.out.NH k))
  refine SyD hW ?_ (vs:=[.agg (arr .u8 k0), .int .i64 id, .agg (arr .u8 pk)]) (fun u k=>HSC.out u (H9.out.NH k))
  iterate 3 refine jH hW ?_
  refine SyA hW ?_ U2.out
  refine SySa hW ?_ 12 zc 29 kQ HZS.out J8.out xB.out
  refine jH hW ?_
  exact SyN
 case e5 =>
  have gy:=abC (Holds.blkT H9.out hH [0,1,12] [(w.heap.size,SC, 42),(g11,arr .u8 K, 25),(q5 10,CC, 29)] (by decide) (by kernel_rfl))
  have UO:=abC (HO.out.keptB hH.keep (fun g hg=>by rintro ⟨e,he,rfl⟩;simp only [List.mem_cons,List.not_mem_nil,or_false] at he;have:=HLO.out;rcases he with rfl|rfl <;> (dsimp only at hg;omega)))
  simp only [lay,Sy.at,CQ,Yr,Yv,Yp,Yq,Yn,Y0,Yw,Act.put,sA,sZ,sS,Nat.reduceAdd]
  clear hH HO H9
  generalize q5 10=g14 at gy ⊢
  generalize u5=wc at gy UO ⊢
  (try simp only [Exit.then])
  go_upto_region 8 with fail
  (try simp only [World.size_alloc,Act.put,sA,sZ,sS])
  refine wp_region_held_drew (S:=fun u=>Below wc.heap.size wc u) (by kernel_rfl) ((Below.refl _ wc).drew) (fun hHeld=>?_)
  refine pT 0 ⟨some 45,_,_,_,_,none⟩ (.pointer (some ⟨w.heap.size,64,none⟩)) ?_
  (try simp only [Act.put,sA,sZ,sS])
  refine' wpAnyH_take (i:=1) (oi:=(⟨some 46,_,_,_,_,none⟩:Oper)) (v:=_) rfl (by kernel_rfl) (by kernel_rfl) (by kernel_rfl) (fun _ _ _ h=>h) (yieldsIf_load_mid (by rfl) _ _ rfl _ _ rfl (k2.map (Value.int .u8)) _ ?hS102 Tryz.underlying25 rfl (by rw [abD];exact Sl.bU HL2.out)) (by assumption) ?yu
  case hS102=>(intro u aR;(try dsimp only at aR);exact aO (Below.blk aR (gy.out.get 0 rfl) (gy.out.lt 0 rfl)) 64 _ (by rw [abD];exact Ej.out))
  (try simp only [Act.put,sA,sZ,sS])
  refine pT 3 ⟨some 48,_,_,_,_,none⟩ (.slice (some ⟨g11,0,none⟩) 32 32) ?_
  (try simp only [Act.put,sA,sZ,sS])
  refine' wpAnyH_take (i:=5) (oi:=(⟨some 50,_,_,_,_,none⟩:Oper)) (v:=_) rfl (by kernel_rfl) (by kernel_rfl) (by kernel_rfl) (fun _ _ _ h=>h) (yieldsIf_load_mid (by rfl) _ _ rfl _ _ rfl (K.map (Value.int .u8)) _ ?hS104 Tryz.underlying25 rfl (by rw [abD];exact Sl.bU lH.out)) (by assumption) ?Fh
  case hS104=>(intro u aR;(try dsimp only at aR);exact aO (Below.blk aR (gy.out.get 1 rfl) (gy.out.lt 1 rfl)) 0 _ (by rw [abD];exact aj _ _))
  (try simp only [Act.put,sA,sZ,sS])
  refine pR 2 ⟨some 47,_,_,_,_,none⟩ (fun K hK=>?_)
  have HD5:=abC (show Below wc.heap.size wc wc.drew from (Below.refl _ wc).drew)
  go_simp
  go_at_call 59
  refine (HLP.out _ (gy.out.below.trans (HD5.out.mono gy.out.below.size))).mono ?_
  rintro e w6 ⟨rfl,hb6⟩
  have HD6:Hid (Below wc.heap.size wc w6):=abC (HD5.out.trans hb6)
  clear hb6
  (try dsimp only)
  refine hK.out _ _ (HD6.out) (fun hHeld=>?_)
  clear hK K
  (try simp only [Act.put,sA,sZ,sS])
  refine pR 4 ⟨some 49,_,_,_,_,none⟩ (fun K hK=>?_)
  go_simp
  go_at_call 16
  refine (UK.out _ _ (gy.out.below.trans (HD6.out.mono gy.out.below.size)) (bQ (Below.blk HD6.out (gy.out.get 1 rfl) (gy.out.lt 1 rfl)) 32 lH.out)).mono ?_
  rintro e w7 ⟨rfl,jh⟩
  have HD7:Hid (Below wc.heap.size wc w7):=abC (HD6.out.trans (jh.mono HD6.out.size))
  clear jh
  (try dsimp only)
  refine hK.out _ _ (HD7.out) (fun hHeld=>?_)
  clear hK K
  (try simp only [Act.put,sA,sZ,sS])
  refine pR 6 ⟨some 51,_,_,_,_,none⟩ (fun K hK=>?_)
  go_simp
  go_at_call 58
  refine (HWR.out _ (gy.out.below.trans (HD7.out.mono gy.out.below.size))).mono ?_
  rintro e w8 ⟨⟨sw,cw,rfl,hsw,hcw⟩,CK⟩
  have HD8:Hid (Below wc.heap.size wc w8):=abC (HD7.out.trans (CK.mono HD7.out.size))
  have Bw:=abC hsw
  have HCW:=abC hcw
  clear CK hsw hcw
  (try dsimp only)
  refine hK.out _ _ (HD8.out) (fun hHeld=>?_)
  clear hK K
  (try simp only [Act.put,sA,sZ,sS])
  refine pT 7 ⟨some 44,_,_,_,_,none⟩ (.tuple #[.slice sw 80 cw, .int .i64 0]) ?_
  (try simp only [Act.put,sA,sZ,sS])
  refine pT 8 ⟨some 52,_,_,_,_,none⟩ (.slice sw 80 cw) ?_
  (try simp only [Act.put,sA,sZ,sS])
  refine pT 10 ⟨some 15,_,_,_,_,none⟩ (.slice sw 80 cw) ?_
  (try simp only [Act.put,sA,sZ,sS])
  refine pT 9 ⟨some 53,_,_,_,_,none⟩ (.int .i64 0) ?_
  (try simp only [Act.put,sA,sZ,sS])
  refine pT 11 ⟨some 13,_,_,_,_,none⟩ (.int .i64 0) ?_
  (try simp only [Act.put,sA,sZ,sS])
  refine wpAnyH_done (by kernel_rfl) ?_ _
  (try simp only [Exit.then])
  clear hHeld
  have gu:=abC (gy.out.kept HD8.out)
  have HO8:=abC (UO.out.below HD8.out)
  clear gy UO HD6 HD7 HD8
  go_upto_region 11 with fail
  (try simp only [World.size_alloc,Act.put,sA,sZ,sS])
  obtain ⟨sl,cl,rfl,hcl,hsl, -⟩:=HO8.out.form
  have HSL:=abC hsl
  have mF:=abC hcl
  clear hsl hcl
  refine wp_region_held_drew (S:=fun u=>Below w8.heap.size w8 u) (by kernel_rfl) ((Below.refl _ w8).drew) (fun hHeld=>?_)
  refine pT 0 ⟨some 58,_,_,_,_,none⟩ (.pointer (some ⟨w.heap.size,32,none⟩)) ?_
  (try simp only [Act.put,sA,sZ,sS])
  refine' wpAnyH_take (i:=1) (oi:=(⟨some 59,_,_,_,_,none⟩:Oper)) (v:=_) rfl (by kernel_rfl) (by kernel_rfl) (by kernel_rfl) (fun _ _ _ h=>h) (yieldsIf_load_mid (by rfl) _ _ rfl _ _ rfl (k1.map (Value.int .u8)) _ ?hS111 Tryz.underlying25 rfl (by rw [abD];exact Sl.bU oH.out)) (by assumption) ?PZ
  case hS111=>(intro u aR;(try dsimp only at aR);exact aO (Below.blk aR (gu.out.get 0 rfl) (gu.out.lt 0 rfl)) 32 _ (by rw [abD];exact HP1.out))
  (try simp only [Act.put,sA,sZ,sS])
  refine pT 2 ⟨some 60,_,_,_,_,none⟩ (.int .i64 v) ?_
  (try simp only [Act.put,sA,sZ,sS])
  refine pT 3 ⟨some 61,_,_,_,_,none⟩ (.slice sl L.length cl) ?_
  (try simp only [Act.put,sA,sZ,sS])
  refine pT 4 ⟨some 62,_,_,_,_,none⟩ (.int .i64 L.length) ?_
  (try simp only [Act.put,sA,sZ,sS])
  refine pT 5 ⟨some 63,_,_,_,_,none⟩ (.slice sl L.length cl) ?_
  (try simp only [Act.put,sA,sZ,sS])
  refine pT 7 ⟨some 65,_,_,_,_,none⟩ (.slice sw 80 cw) ?_
  (try simp only [Act.put,sA,sZ,sS])
  refine' wpAnyH_take (i:=8) (oi:=(⟨some 66,_,_,_,_,none⟩:Oper)) (v:=_) rfl (by kernel_rfl) (by kernel_rfl) (by kernel_rfl) (fun _ _ _ h=>h) (yieldsIf_load_mid (by rfl) _ _ rfl _ _ rfl (CC.toList) _ ?hS117 Tryz.underlying29 rfl (by simpa using HCI.out)) (by assumption) ?EZ
  case hS117=>(intro u aR;(try dsimp only at aR);exact aO (Below.blk aR (gu.out.get 2 rfl) (gu.out.lt 2 rfl)) 0 _ (by rw [List.drop_zero];exact List.take_of_length_le (by simp)))
  (try simp only [Act.put,sA,sZ,sS])
  have HDd:Hid (Below w8.heap.size w8 w8.drew):=abC (Below.refl _ w8).drew
  refine wpAnyH_ready (rs:=[6,14]) (by kernel_rfl) (by simp) ?_
  refine AllReadyH.cons (o:=(⟨some 64,_,_,_,_,none⟩:Oper)) rfl (fun K hK=>?r140_6) (AllReadyH.cons (o:=(⟨some 16,_,_,_,_,none⟩:Oper)) rfl (fun K hK=>?r140_14) AllReadyH.nil)
  case r140_6 =>
   go_simp
   go_at_call 60
   refine (HRT.out _ _ _ (gu.out.below.trans (HDd.out.mono gu.out.below.size)) (HSL.out.below HDd.out) mF.out).mono ?_
   rintro e wa ⟨rfl,hb⟩
   have rW:Hid (Below w8.heap.size w8 wa):=abC (HDd.out.trans (hb.mono HDd.out.size))
   clear hb
   (try dsimp only)
   refine hK.out _ _ (rW.out) (fun hHeld=>?_)
   clear hK K
   (try simp only [Act.put,sA,sZ,sS])
   refine wpAnyH_take (i:=9) (oi:=(⟨some 67,_,_,_,_,none⟩:Oper)) (v := .agg (M0 sw cw)) rfl (by kernel_rfl) (by kernel_rfl) (by kernel_rfl) (fun _ _ _ h=>h) (Or.inl ⟨by rfl,?Jf⟩) (by assumption) ?PO
   case Jf=>(intro u aR;(try dsimp only at aR);exact WU (Eq.trans (congrArg (fun A=>(Instr.build 31 A).run Tryz.prog u) (by first|rfl|kernel_rfl)) (HBM.out u sw cw)))
   (try simp only [Act.put,sA,sZ,sS])
   refine wpAnyH_ready (rs:=[10,14]) (by kernel_rfl) (by simp) ?_
   refine AllReadyH.cons (o:=(⟨some 68,_,_,_,_,none⟩:Oper)) rfl (fun K hK=>?r139_10) (AllReadyH.cons (o:=(⟨some 16,_,_,_,_,none⟩:Oper)) rfl (fun K hK=>?r139_14) AllReadyH.nil)
   case r139_10 =>
    go_simp
    go_at_call 23
    refine (UJ.out _ _ _ (gu.out.below.trans (rW.out.mono gu.out.below.size)) (Bw.out.below rW.out)).mono ?_
    rintro e Vi ⟨s2,c2,rfl,hx,hb⟩
    have kr:Hid (Below w8.heap.size w8 Vi):=abC (rW.out.trans (hb.mono rW.out.size))
    have HX:=abC hx
    have jc:=abC hx.lt
    clear hb hx
    (try dsimp only)
    refine hK.out _ _ (kr.out) (fun hHeld=>?_)
    clear hK K
    (try simp only [Act.put,sA,sZ,sS])
    refine pT 11 ⟨some 57,_,_,_,_,none⟩ (.tuple #[.agg (MS s2 c2), .int .i64 0]) ?_
    (try simp only [Act.put,sA,sZ,sS])
    refine pT 12 ⟨some 69,_,_,_,_,none⟩ (.agg (MS s2 c2)) ?_
    (try simp only [Act.put,sA,sZ,sS])
    refine pT 13 ⟨some 70,_,_,_,_,none⟩ (.int .i64 0) ?_
    (try simp only [Act.put,sA,sZ,sS])
    refine wpAnyH_ready (rs:=[14]) (by kernel_rfl) (by simp) ?_
    refine AllReadyH.cons (o:=(⟨some 16,_,_,_,_,none⟩:Oper)) rfl (fun K hK=>?r137_14) AllReadyH.nil
    case r137_14 =>
     refine bA rfl 31 rfl _ (UD.out _) ?_
     have HG:Hid ((Vi.alloc (.cells mz 31)).heap[Vi.heap.size]? = some (.cells mz 31 (0,0))):=abC (aH _ _)
     have U3:Hid (w8.heap.size≤Vi.heap.size):=abC kr.out.size
     have oI:Hid (Below w8.heap.size w8 (Vi.alloc (.cells mz 31))):=abC (kr.out.alloc kr.out.size _)
     have HX:=abC (HX.out.alloc (.cells mz 31))
     have HXN:Hid (∀ k,(Value.slice s2 80 c2).ownBlock=some k→k≠Vi.heap.size):=abC (fun k e=>by have:=jc.out k e;omega)
     generalize Vi.heap.size=g16 at HG U3 HXN ⊢
     generalize Vi.alloc (.cells mz 31)=wc2 at HG oI HX ⊢
     refine hK.out _ _ (oI.out) (fun hHeld=>?_)
     clear hK K
     (try simp only [Act.put,sA,sZ,sS])
     refine wpAnyH_ready (rs:=[15]) (by kernel_rfl) (by simp) ?_
     refine AllReadyH.cons (o:=(⟨none,_,_,_,_,none⟩:Oper)) rfl (fun K hK=>?r136_15) AllReadyH.nil
     case r136_15 =>
      refine aI rfl 31 (.tmp 16) (.tmp 69) rfl g16 _ _ 31 HG.out rfl rfl (by rw [(Gs.out s2 c2).1,HMZ.out]) (Oj.out s2 c2) (Gs.out s2 c2).2 ?_
      intro wE hbE AA hzE
      have HGE:=abC hbE
      have HXE:=abC (HX.out.kept AA (fun k e=>HXN.out k e))
      have BM:Hid (Below w8.heap.size w8 wE):=abC (oI.out.trans ⟨AA.os,AA.tape,AA.output,AA.size,fun k hk=>AA.block k (abE hk oI.out.size) (fun e=>by have e:k=g16:=e;have:=U3.out;omega)⟩)
      clear hbE AA hzE
      refine hK.out _ _ (BM.out) (fun hHeld=>?_)
      clear hK K
      (try simp only [Act.put,sA,sZ,sS])
      refine pT 16 ⟨some 13,_,_,_,_,none⟩ (.int .i64 0) ?_
      (try simp only [Act.put,sA,sZ,sS])
      refine wpAnyH_done (by kernel_rfl) ?_ _
      (try simp only [Exit.then])
      clear hHeld
      have CW:=abC (gu.out.below.trans (BM.out.mono gu.out.below.size))
      have Av:=abC (HO8.out.below BM.out)
      have hsx:Src wE s2 80 ws:=by
       obtain ⟨sa,c,e, -, -, h, -⟩:=HXE.out.form
       injection e with e1 e2 e3
       rw [e1,e2];exact h
      have UH:=abC hsx
      clear hsx
      go_wp2_with (first|((with_reducible refine aS 75 ?_);refine wpList_load_row rfl 31 _ rfl g16 rfl 31 _ (0,0) _ HGE.out Tryz.underlying31 rfl (Oj.out s2 c2) ?_)|((with_reducible show Calls _ 61 _ _ _);go_at_call 61; refine (HPM.out _ _ _ CW.out UH.out).mono ?_;rintro e wF ⟨vv,rfl,ho,hb⟩;have HPF:=abC ho;have sH:=abC hb;clear ho hb))
      all_goals (try simp only [Exit.then])
      go_ret3
      exact ⟨_,_,rfl,HPF.out.mono CW.out.size,(Av.out.below sH.out).mono (abF HLO.out.1),CW.out.trans (sH.out.mono CW.out.size)⟩
   case r139_14 =>
    refine bA rfl 31 rfl _ (UD.out _) ?_
    have HG:Hid ((wa.alloc (.cells mz 31)).heap[wa.heap.size]? = some (.cells mz 31 (0,0))):=abC (aH _ _)
    have U3:Hid (w8.heap.size≤wa.heap.size):=abC rW.out.size
    have kr:Hid (Below w8.heap.size w8 (wa.alloc (.cells mz 31))):=abC (rW.out.alloc rW.out.size _)
    generalize wa.heap.size=g16 at HG U3 ⊢
    generalize wa.alloc (.cells mz 31)=Vi at HG kr ⊢
    refine hK.out _ _ (kr.out) (fun hHeld=>?_)
    clear hK K
    (try simp only [Act.put,sA,sZ,sS])
    refine wpAnyH_ready (rs:=[10]) (by kernel_rfl) (by simp) ?_
    refine AllReadyH.cons (o:=(⟨some 68,_,_,_,_,none⟩:Oper)) rfl (fun K hK=>?r131_10) AllReadyH.nil
    case r131_10 =>
     go_simp
     go_at_call 23
     refine (UJ.out _ _ _ (gu.out.below.trans (kr.out.mono gu.out.below.size)) (Bw.out.below kr.out)).mono ?_
     rintro e wc2 ⟨s2,c2,rfl,hx,hb⟩
     have oI:Hid (Below w8.heap.size w8 wc2):=abC (kr.out.trans (hb.mono kr.out.size))
     have HX:=abC hx
     have jc:=abC hx.lt
     have HXN:Hid (∀ k,(Value.slice s2 80 c2).ownBlock=some k→k≠g16):=abC (fun k e=>by have:=jc.out k e;have:=aV HG.out;omega)
     have HG:=abC (Below.blk hb HG.out (aV HG.out))
     clear hb hx
     (try dsimp only)
     refine hK.out _ _ (oI.out) (fun hHeld=>?_)
     clear hK K
     (try simp only [Act.put,sA,sZ,sS])
     refine pT 11 ⟨some 57,_,_,_,_,none⟩ (.tuple #[.agg (MS s2 c2), .int .i64 0]) ?_
     (try simp only [Act.put,sA,sZ,sS])
     refine pT 12 ⟨some 69,_,_,_,_,none⟩ (.agg (MS s2 c2)) ?_
     (try simp only [Act.put,sA,sZ,sS])
     refine pT 13 ⟨some 70,_,_,_,_,none⟩ (.int .i64 0) ?_
     (try simp only [Act.put,sA,sZ,sS])
     refine wpAnyH_ready (rs:=[15]) (by kernel_rfl) (by simp) ?_
     refine AllReadyH.cons (o:=(⟨none,_,_,_,_,none⟩:Oper)) rfl (fun K hK=>?r130_15) AllReadyH.nil
     case r130_15 =>
      refine aI rfl 31 (.tmp 16) (.tmp 69) rfl g16 _ _ 31 HG.out rfl rfl (by rw [(Gs.out s2 c2).1,HMZ.out]) (Oj.out s2 c2) (Gs.out s2 c2).2 ?_
      intro wE hbE AA hzE
      have HGE:=abC hbE
      have HXE:=abC (HX.out.kept AA (fun k e=>HXN.out k e))
      have BM:Hid (Below w8.heap.size w8 wE):=abC (oI.out.trans ⟨AA.os,AA.tape,AA.output,AA.size,fun k hk=>AA.block k (abE hk oI.out.size) (fun e=>by have e:k=g16:=e;have:=U3.out;omega)⟩)
      clear hbE AA hzE
      refine hK.out _ _ (BM.out) (fun hHeld=>?_)
      clear hK K
      (try simp only [Act.put,sA,sZ,sS])
      refine pT 16 ⟨some 13,_,_,_,_,none⟩ (.int .i64 0) ?_
      (try simp only [Act.put,sA,sZ,sS])
      refine wpAnyH_done (by kernel_rfl) ?_ _
      (try simp only [Exit.then])
      clear hHeld
      have CW:=abC (gu.out.below.trans (BM.out.mono gu.out.below.size))
      have Av:=abC (HO8.out.below BM.out)
      have hsx:Src wE s2 80 ws:=by
       obtain ⟨sa,c,e, -, -, h, -⟩:=HXE.out.form
       injection e with e1 e2 e3
       rw [e1,e2];exact h
      have UH:=abC hsx
      clear hsx
      go_wp2_with (first|((with_reducible refine aS 75 ?_);refine wpList_load_row rfl 31 _ rfl g16 rfl 31 _ (0,0) _ HGE.out Tryz.underlying31 rfl (Oj.out s2 c2) ?_)|((with_reducible show Calls _ 61 _ _ _);go_at_call 61; refine (HPM.out _ _ _ CW.out UH.out).mono ?_;rintro e wF ⟨vv,rfl,ho,hb⟩;have HPF:=abC ho;have sH:=abC hb;clear ho hb))
      all_goals (try simp only [Exit.then])
      go_ret3
      exact ⟨_,_,rfl,HPF.out.mono CW.out.size,(Av.out.below sH.out).mono (abF HLO.out.1),CW.out.trans (sH.out.mono CW.out.size)⟩
  case r140_14 =>
   refine bA rfl 31 rfl _ (UD.out _) ?_
   have HG:Hid ((w8.drew.alloc (.cells mz 31)).heap[w8.drew.heap.size]? = some (.cells mz 31 (0,0))):=abC (aH _ _)
   have U3:Hid (w8.heap.size≤w8.drew.heap.size):=abC HDd.out.size
   have rW:Hid (Below w8.heap.size w8 (w8.drew.alloc (.cells mz 31))):=abC (HDd.out.alloc HDd.out.size _)
   generalize w8.drew.heap.size=g16 at HG U3 ⊢
   generalize w8.drew.alloc (.cells mz 31)=wa at HG rW ⊢
   refine hK.out _ _ (rW.out) (fun hHeld=>?_)
   clear hK K
   (try simp only [Act.put,sA,sZ,sS])
   refine wpAnyH_ready (rs:=[6]) (by kernel_rfl) (by simp) ?_
   refine AllReadyH.cons (o:=(⟨some 64,_,_,_,_,none⟩:Oper)) rfl (fun K hK=>?r125_6) AllReadyH.nil
   case r125_6 =>
    go_simp
    go_at_call 60
    refine (HRT.out _ _ _ (gu.out.below.trans (rW.out.mono gu.out.below.size)) (HSL.out.below rW.out) mF.out).mono ?_
    rintro e Vi ⟨rfl,hb⟩
    have kr:Hid (Below w8.heap.size w8 Vi):=abC (rW.out.trans (hb.mono rW.out.size))
    have HG:=abC (Below.blk hb HG.out (aV HG.out))
    clear hb
    (try dsimp only)
    refine hK.out _ _ (kr.out) (fun hHeld=>?_)
    clear hK K
    (try simp only [Act.put,sA,sZ,sS])
    refine wpAnyH_take (i:=9) (oi:=(⟨some 67,_,_,_,_,none⟩:Oper)) (v := .agg (M0 sw cw)) rfl (by kernel_rfl) (by kernel_rfl) (by kernel_rfl) (fun _ _ _ h=>h) (Or.inl ⟨by rfl,?Au⟩) (by assumption) ?yj
    case Au=>(intro u aR;(try dsimp only at aR);exact WU (Eq.trans (congrArg (fun A=>(Instr.build 31 A).run Tryz.prog u) (by first|rfl|kernel_rfl)) (HBM.out u sw cw)))
    (try simp only [Act.put,sA,sZ,sS])
    refine wpAnyH_ready (rs:=[10]) (by kernel_rfl) (by simp) ?_
    refine AllReadyH.cons (o:=(⟨some 68,_,_,_,_,none⟩:Oper)) rfl (fun K hK=>?r124_10) AllReadyH.nil
    case r124_10 =>
     go_simp
     go_at_call 23
     refine (UJ.out _ _ _ (gu.out.below.trans (kr.out.mono gu.out.below.size)) (Bw.out.below kr.out)).mono ?_
     rintro e wc2 ⟨s2,c2,rfl,hx,hb⟩
     have oI:Hid (Below w8.heap.size w8 wc2):=abC (kr.out.trans (hb.mono kr.out.size))
     have HX:=abC hx
     have jc:=abC hx.lt
     have HXN:Hid (∀ k,(Value.slice s2 80 c2).ownBlock=some k→k≠g16):=abC (fun k e=>by have:=jc.out k e;have:=aV HG.out;omega)
     have HG:=abC (Below.blk hb HG.out (aV HG.out))
     clear hb hx
     (try dsimp only)
     refine hK.out _ _ (oI.out) (fun hHeld=>?_)
     clear hK K
     (try simp only [Act.put,sA,sZ,sS])
     refine pT 11 ⟨some 57,_,_,_,_,none⟩ (.tuple #[.agg (MS s2 c2), .int .i64 0]) ?_
     (try simp only [Act.put,sA,sZ,sS])
     refine pT 12 ⟨some 69,_,_,_,_,none⟩ (.agg (MS s2 c2)) ?_
     (try simp only [Act.put,sA,sZ,sS])
     refine pT 13 ⟨some 70,_,_,_,_,none⟩ (.int .i64 0) ?_
     (try simp only [Act.put,sA,sZ,sS])
     refine wpAnyH_ready (rs:=[15]) (by kernel_rfl) (by simp) ?_
     refine AllReadyH.cons (o:=(⟨none,_,_,_,_,none⟩:Oper)) rfl (fun K hK=>?r123_15) AllReadyH.nil
     case r123_15 =>
      refine aI rfl 31 (.tmp 16) (.tmp 69) rfl g16 _ _ 31 HG.out rfl rfl (by rw [(Gs.out s2 c2).1,HMZ.out]) (Oj.out s2 c2) (Gs.out s2 c2).2 ?_
      intro wE hbE AA hzE
      have HGE:=abC hbE
      have HXE:=abC (HX.out.kept AA (fun k e=>HXN.out k e))
      have BM:Hid (Below w8.heap.size w8 wE):=abC (oI.out.trans ⟨AA.os,AA.tape,AA.output,AA.size,fun k hk=>AA.block k (abE hk oI.out.size) (fun e=>by have e:k=g16:=e;have:=U3.out;omega)⟩)
      clear hbE AA hzE
      refine hK.out _ _ (BM.out) (fun hHeld=>?_)
      clear hK K
      (try simp only [Act.put,sA,sZ,sS])
      refine pT 16 ⟨some 13,_,_,_,_,none⟩ (.int .i64 0) ?_
      (try simp only [Act.put,sA,sZ,sS])
      refine wpAnyH_done (by kernel_rfl) ?_ _
      (try simp only [Exit.then])
      clear hHeld
      have CW:=abC (gu.out.below.trans (BM.out.mono gu.out.below.size))
      have Av:=abC (HO8.out.below BM.out)
      have hsx:Src wE s2 80 ws:=by
       obtain ⟨sa,c,e, -, -, h, -⟩:=HXE.out.form
       injection e with e1 e2 e3
       rw [e1,e2];exact h
      have UH:=abC hsx
      clear hsx
      go_wp2_with (first|((with_reducible refine aS 75 ?_);refine wpList_load_row rfl 31 _ rfl g16 rfl 31 _ (0,0) _ HGE.out Tryz.underlying31 rfl (Oj.out s2 c2) ?_)|((with_reducible show Calls _ 61 _ _ _);go_at_call 61; refine (HPM.out _ _ _ CW.out UH.out).mono ?_;rintro e wF ⟨vv,rfl,ho,hb⟩;have HPF:=abC ho;have sH:=abC hb;clear ho hb))
      all_goals (try simp only [Exit.then])
      go_ret3
      exact ⟨_,_,rfl,HPF.out.mono CW.out.size,(Av.out.below sH.out).mono (abF HLO.out.1),CW.out.trans (sH.out.mono CW.out.size)⟩
end Go.Proofs.YthdgbgleklkaiaaGreatDoor.Ms
