/- The document's (Set).Manifest. Condition: as each theorem says. -/

import Derived.Test.YthdgbgleklkaiaaDoorQb17
import Derived.Test.YthdgbgleklkaiaaDoorQb30
import Derived.Test.YthdgbgleklkaiaaDoorQb32
import Derived.Test.YthdgbgleklkaiaaDoorQb34
import Derived.Test.YthdgbgleklkaiaaDoorQb39
import Derived.Test.YthdgbgleklkaiaaDoorQb40
import Derived.Test.YthdgbgleklkaiaaDoorQb41
open Go.Lib renaming hid→acD
open List renaming length_map→acE,replicate→acF
open Nat renaming lt_of_lt_of_le→acG,le_of_lt→acH
set_option linter.unusedSimpArgs false
set_option linter.unusedVariables false
set_option maxRecDepth 100000
set_option maxHeartbeats 16000000
namespace Go.Proofs.YthdgbgleklkaiaaDoor.Ms
open Go.RowKit Lm Fp Cu Sl Sc Ce
theorem _root_.Go.Proofs.YthdgbgleklkaiaaDoor.dX.keptB {T:Nat→Prop} {w w':World} {B:Nat} {v:Value} {L:List (List Int)} (h:dX w B v L) (k:Kept T w w') (hT:∀ g,B≤g→¬ T g):dX w' B v L:=by
 obtain ⟨vs,h1,h2,h3⟩:=h
 exact ⟨vs,nQ h1 k (fun g hg=>hT g (World.ownsRow.lt h1 g hg).1),h2,fun i hi=>(h3 i hi).kept k (fun g hg _=>hT g hg)⟩
theorem Ws {m:Sem Value} {v:Value} {w w':World} (h:m.run Tryd.prog w = .ok v w'):(do pure (Next.value (← m)):Sem Next).run Tryd.prog w = .ok (.value v) w':=by
 rw [Sem.run_bind,h]
 rfl
theorem size_set (w:World):(Tryd.prog.info? 47).map (·.size)=some 128:=by kernel_rfl
theorem RY {k0 k1 k2 k3 K pk tk dk ws R sg:List Int} {CC:Array Value} {L:List (List Int)} (id v:Int) (sp:Option Addr) (n cp:Nat) (w:World) (h0:k0.length=32) (h1:k1.length=32) (h2:k2.length=32) (h3:k3.length=32)
  (hK:K.length=32) (hCs:CC.size=97) (hC1:CC.all (·.oneCell')=true)
  (hKO:∀ u,Below w.heap.size w u→Calls Tryd.prog 31 #[.agg (lF k0 k1 k2 k3), .int .i64 v] u fun e w'=>e = .returned (.agg (arr .u8 K))∧Below u.heap.size u w')
  (hMK:∀ u,Below w.heap.size w u→Calls Tryd.prog 32 #[.agg (arr .u8 K), .int .i64 v, .slice sp n cp] u fun e w'=>∃ lv,e = .returned (.tuple #[lv, .int .i64 0])∧dX w' u.heap.size lv L∧Below u.heap.size u w')
  (hPB:∀ u,Below w.heap.size w u→Calls Tryd.prog 34 #[.agg (arr .u8 k1)] u fun e w'=>e = .returned (.agg (arr .u8 pk))∧Below u.heap.size u w')
  (hSC:∀ u,Below w.heap.size w u→Calls Tryd.prog 33 #[.agg (arr .u8 k0), .int .i64 id, .agg (arr .u8 pk)] u fun e w'=>e = .returned (.tuple #[.agg CC, .int .i64 0])∧Below u.heap.size u w')
  (hLP:∀ u,Below w.heap.size w u→Calls Tryd.prog 36 #[.agg (arr .u8 k2)] u fun e w'=>e = .returned (.agg (arr .u8 tk))∧Below u.heap.size u w')
  (hSH:∀ u g,Below w.heap.size w u→Src u (some ⟨g,0,none⟩) 32 K→Calls Tryd.prog 14 #[.slice (some ⟨g,0,none⟩) 32 32] u fun e w'=>e = .returned (.agg (arr .u8 dk))∧Below u.heap.size u w')
  (hWR:∀ u,Below w.heap.size w u→Calls Tryd.prog 35 #[.agg (arr .u8 tk), .agg (arr .u8 dk), .agg (arr .u8 K)] u fun e w'=>(∃ sa c,e = .returned (.tuple #[.slice sa 80 c, .int .i64 0])∧Src w' sa 80 ws∧80≤c)∧Below u.heap.size u w')
  (M0 MS:Option Addr→Nat→Array Value) (PB:List Int) (hMS:∀ s c,(MS s c).size=196∧(MS s c).all (·.oneCell')=true)
  (hBM:∀ u s c,(Instr.build 30 #[(0, .int .i64 v),(1, .int .i64 L.length),(2, .agg (arr .u8 R)),(3, .slice s 80 c),(4, .agg CC)]).run Tryd.prog u = .ok (.agg (M0 s c)) u)
  (hRT:∀ u s c,Below w.heap.size w u→oq u s L.length L→Calls Tryd.prog 38 #[.slice s L.length c] u fun e w'=>e = .returned (.agg (arr .u8 R))∧Below u.heap.size u w')
  (hSM:∀ u s c,Below w.heap.size w u→Src u s 80 ws→Calls Tryd.prog 37 #[.agg (arr .u8 k1), .agg (M0 s c)] u fun e w'=>∃ s2 c2,e = .returned (.tuple #[.agg (MS s2 c2), .int .i64 0])∧aU w' u.heap.size (.slice s2 80 c2) ws∧Below u.heap.size u w')
  (hPM:∀ u s c,Below w.heap.size w u→Src u s 80 ws→Calls Tryd.prog 6 #[.agg (MS s c)] u fun e w'=>∃ vv,e = .returned (.tuple #[vv, .int .i64 0])∧aU w' u.heap.size vv PB∧Below u.heap.size u w') :
  Calls Tryd.prog 16 #[.agg (lF k0 k1 k2 k3), .int .i64 id, .int .i64 v, .slice sp n cp] w fun e w'=>∃ xv lv,e = .returned (.tuple #[xv,lv, .int .i64 0])∧aU w' w.heap.size xv PB∧dX w' w.heap.size lv L∧Below w.heap.size w w':=by
 have hpt:=vD h0 h1 h2 h3
 have HP0:=acD hpt.1
 have HP1:=acD hpt.2.1
 have yj:=acD hpt.2.2.1
 have HKO:=acD hKO
 have HMK:=acD hMK
 have HPB:=acD hPB
 have HSC:=acD hSC
 have HLP:=acD hLP
 have HSH:=acD hSH
 have HWR:=acD hWR
 have F3:=acD hMS
 have HBM:=acD hBM
 have HRT:=acD hRT
 have HSM:=acD hSM
 have HPM:=acD hPM
 obtain ⟨mz,hmz⟩:∃ m,m=Mf.iI:=⟨_,rfl⟩
 have HZM:Hid (∀ w,(zeroValue 30).run Tryd.prog w = .ok (.agg mz) w):=acD (by rw [hmz];exact Mf.mI)
 have HMZ:Hid (mz.size=196):=acD (by rw [hmz];exact Mf.bK rfl rfl rfl rfl)
 have Cy:Hid (∀ s c,(Tryd.prog.info? 30).map (·.size)=some (MS s c).size):=acD (fun s c=>by rw [(hMS s c).1];exact Mf.eD)
 have HCI:Hid ((Tryd.prog.info? 28).map (·.size)=some CC.size):=acD (by rw [hCs];exact kX)
 have Uq:=acD h0
 have nC:=acD h1
 have HL2:=acD h2
 have kU:=acD hK
 have JG:=acD hCs
 have yX:=acD hC1
 have FU:Hid ((Tryd.prog.info? 47).map (·.size)=some (lF k0 k1 k2 k3).size):=acD (by rw [Dn h0 h1 h2 h3];exact size_set w)
 obtain ⟨zn,hzn⟩:∃ zs:List Int,zs=acF 32 0:=⟨_,rfl⟩
 have HZ:Hid (∀ w,(zeroValue 23).run Tryd.prog w = .ok (.agg (arr .u8 zn)) w):=acD (by intro w;rw [hzn];exact zero_num w)
 have Um:Hid (zn.length=32):=acD (by rw [hzn];rfl)
 have HKI:Hid ((Tryd.prog.info? 23).map (·.size)=some (arr .u8 K).size):=acD (Sl.bE hK)
 have HKZ:Hid ((arr .u8 K).size=(arr .u8 zn).size):=acD (by rw [aD,aD,hK,Um.out])
 have HKA:Hid ((arr .u8 K).all (·.oneCell')=true):=acD (av _ _)
 obtain ⟨zc,hzc⟩:∃ c,c=dn 0 (acF 32 0) (acF 64 0):=⟨_,rfl⟩
 have HZC:Hid (∀ w,(zeroValue 28).run Tryd.prog w = .ok (.agg zc) w):=acD (by intro w;rw [hzc];exact vg w)
 have HZS:Hid (zc.size=97):=acD (by rw [hzc];exact jJ (by simp) (by simp))
 generalize lF k0 k1 k2 k3=SC at hpt HP0 HP1 yj HKO FU hKO ⊢
 have bQ:=acD (bM.one w SC 47)
 clear hpt hKO hMK hPB hSC hLP hSH hWR hMS hBM hRT hSM hPM hmz h0 h1 h2 h3 hK hCs hC1 hzn hzc
 go_enter Tryd.func16, Tryd.ntmps16
 go_upto_region 1 with fail
 generalize w.alloc (.cells SC 47)=wb at bQ ⊢
 go_upto_region 2 with (first|((with_reducible refine aS 18 ?_);refine wpList_load_row rfl 47 _ rfl (w.heap.size) rfl 47 _ (0,0) _ (bQ.out.get 0 rfl) Tryd.underlying47 rfl FU.out ?_)|((with_reducible show Calls _ 31 _ _ _);go_at_call 31; refine lC (HKO.out _ bQ.out.below) bQ ?_;intro w1 iO)|((with_reducible refine aS 11 ?_);refine lA rfl rfl (HZ.out _) iO ?_;intro g11 w2 HS2)|((with_reducible refine aT 11 ?_);refine lS rfl rfl HS2 1 rfl rfl rfl HKZ.out HKI.out HKA.out ?_;intro w3 yR))
 (try simp only [World.size_alloc,Act.put,sA,sZ,sS])
 have HLO:Hid (w.heap.size < w3.heap.size∧g11 < w3.heap.size):=acD ⟨yR.out.lt 0 rfl,yR.out.lt 1 rfl⟩
 go_upto_region 5 with (first|((with_reducible refine aS 22 ?_);refine lL rfl rfl (yR.out.get 1 rfl) rfl (au _ _) Tryd.underlying23 rfl (Sl.bU kU.out) ?_)|((with_reducible show Calls _ 32 _ _ _);go_at_call 32; refine (HMK.out _ yR.out.below).mono ?_;rintro e w4 ⟨lv,rfl,ho,hb⟩;have Cv:=acD (yR.out.kept hb);have HO:=acD ho;clear ho;clear hb))
 (try simp only [World.size_alloc,Act.put,sA,sZ,sS])
 generalize w3.heap.size=B0 at HLO HO
 refine gP (T:=fun g=>∃ e∈[(w.heap.size,SC, 47),(g11,arr .u8 K, 23)],e.1=g) (w:=w4) (sy:=[Yp (w.heap.size) 0,Yr .u8 k0,Yv (.int .i64 id),Yp (w.heap.size) 32,Yr .u8 k1,Yr .u8 pk,Yv (.tuple #[.agg CC, .int .i64 0]),Yv (.tuple #[.agg CC, .int .i64 0]),Yv (.agg CC),Yv (.int .i64 0),Yn zc 28, Y0,Yv (.int .i64 0)]) (pt:=[(11,12,Cr CC 28)]) (by kernel_rfl) (by kernel_rfl) (by kernel_rfl) Cv.out.holdsT (fun hW=>?s5) (fun q5 x5 u5 _ hH=>?e5)
 case s5 =>
  refine jD hW ?_
  refine vY hW ?_ 0 0 SC 47 Kn Uq.out HP0.out
  refine jD hW ?_
  refine jD hW ?_
  refine vY hW ?_ 0 32 SC 47 Kn nC.out HP1.out
  refine SyD hW ?_ (vs:=[.agg (arr .u8 k1)]) (fun u k=>HPB.out u (Cv.out.Nk k))
  refine SyD hW ?_ (vs:=[.agg (arr .u8 k0), .int .i64 id, .agg (arr .u8 pk)]) (fun u k=>HSC.out u (Cv.out.Nk k))
  iterate 3 refine jD hW ?_
  refine SyA hW ?_ HZC.out
  refine SySa hW ?_ 12 zc 28 kX HZS.out JG.out yX.out
  refine jD hW ?_
  exact SyN
 case e5 =>
  have fM:=acD (Holds.blkT Cv.out hH [0,1,12] [(w.heap.size,SC, 47),(g11,arr .u8 K, 23),(q5 10,CC, 28)] (by decide) (by kernel_rfl))
  have JY:=acD (HO.out.keptB hH.keep (fun g hg=>by rintro ⟨e,he,rfl⟩;simp only [List.mem_cons,List.not_mem_nil,or_false] at he;have:=HLO.out;rcases he with rfl|rfl <;> (dsimp only at hg;omega)))
  simp only [lay,Sy.at,CV,Yr,Yv,Yp,Yq,Yn,Y0,Yw,Act.put,sA,sZ,sS,Nat.reduceAdd]
  clear hH HO Cv
  generalize q5 10=g14 at fM ⊢
  generalize u5=wc at fM JY ⊢
  (try simp only [Exit.then])
  go_upto_region 8 with fail
  (try simp only [World.size_alloc,Act.put,sA,sZ,sS])
  refine wp_region_held_drew (S:=fun u=>Below wc.heap.size wc u) (by kernel_rfl) ((Below.refl _ wc).drew) (fun hHeld=>?_)
  refine wpAnyH_take (i:=0) (oi:=(⟨some 45,_,_,_,_,none⟩:Oper)) (v := .pointer (some ⟨w.heap.size,64,none⟩)) rfl (by kernel_rfl) (by kernel_rfl) (by kernel_rfl) (fun _ _ _ h=>h) (Or.inl ⟨by rfl,?hy101⟩) (by assumption) ?yA
  case hy101=>(intro u dD;(try dsimp only at dD);go_simp;try (with_reducible rfl))
  (try simp only [Act.put,sA,sZ,sS])
  refine' wpAnyH_take (i:=1) (oi:=(⟨some 46,_,_,_,_,none⟩:Oper)) (v:=_) rfl (by kernel_rfl) (by kernel_rfl) (by kernel_rfl) (fun _ _ _ h=>h) (yieldsIf_load_mid (by rfl) _ _ rfl _ _ rfl (k2.map (Value.int .u8)) _ ?hS102 Tryd.underlying23 rfl (by rw [acE];exact Sl.bU HL2.out)) (by assumption) ?PG
  case hS102=>(intro u dD;(try dsimp only at dD);exact aN (Below.blk dD (fM.out.get 0 rfl) (fM.out.lt 0 rfl)) 64 _ (by rw [acE];exact yj.out))
  (try simp only [Act.put,sA,sZ,sS])
  refine wpAnyH_take (i:=3) (oi:=(⟨some 48,_,_,_,_,none⟩:Oper)) (v := .slice (some ⟨g11,0,none⟩) 32 32) rfl (by kernel_rfl) (by kernel_rfl) (by kernel_rfl) (fun _ _ _ h=>h) (Or.inl ⟨by rfl,?IK⟩) (by assumption) ?PE
  case IK=>(intro u dD;(try dsimp only at dD);go_simp;try (with_reducible rfl))
  (try simp only [Act.put,sA,sZ,sS])
  refine' wpAnyH_take (i:=5) (oi:=(⟨some 50,_,_,_,_,none⟩:Oper)) (v:=_) rfl (by kernel_rfl) (by kernel_rfl) (by kernel_rfl) (fun _ _ _ h=>h) (yieldsIf_load_mid (by rfl) _ _ rfl _ _ rfl (K.map (Value.int .u8)) _ ?hS104 Tryd.underlying23 rfl (by rw [acE];exact Sl.bU kU.out)) (by assumption) ?PD
  case hS104=>(intro u dD;(try dsimp only at dD);exact aN (Below.blk dD (fM.out.get 1 rfl) (fM.out.lt 1 rfl)) 0 _ (by rw [acE];exact au _ _))
  (try simp only [Act.put,sA,sZ,sS])
  refine wpAnyH_ready (rs:=[2]) (by kernel_rfl) (by simp) ?_
  refine AllReadyH.cons (o:=(⟨some 47,_,_,_,_,none⟩:Oper)) rfl (fun K hK=>?_) AllReadyH.nil
  have HD5:=acD (show Below wc.heap.size wc wc.drew from (Below.refl _ wc).drew)
  go_simp
  go_at_call 36
  refine (HLP.out _ (fM.out.below.trans (HD5.out.mono fM.out.below.size))).mono ?_
  rintro e w6 ⟨rfl,hb6⟩
  have HD6:Hid (Below wc.heap.size wc w6):=acD (HD5.out.trans hb6)
  clear hb6
  (try dsimp only)
  refine hK.out _ _ (HD6.out) (fun hHeld=>?_)
  clear hK K
  (try simp only [Act.put,sA,sZ,sS])
  refine wpAnyH_ready (rs:=[4]) (by kernel_rfl) (by simp) ?_
  refine AllReadyH.cons (o:=(⟨some 49,_,_,_,_,none⟩:Oper)) rfl (fun K hK=>?_) AllReadyH.nil
  go_simp
  go_at_call 14
  refine (HSH.out _ _ (fM.out.below.trans (HD6.out.mono fM.out.below.size)) (bO (Below.blk HD6.out (fM.out.get 1 rfl) (fM.out.lt 1 rfl)) 32 kU.out)).mono ?_
  rintro e w7 ⟨rfl,dR⟩
  have HD7:Hid (Below wc.heap.size wc w7):=acD (HD6.out.trans (dR.mono HD6.out.size))
  clear dR
  (try dsimp only)
  refine hK.out _ _ (HD7.out) (fun hHeld=>?_)
  clear hK K
  (try simp only [Act.put,sA,sZ,sS])
  refine wpAnyH_ready (rs:=[6]) (by kernel_rfl) (by simp) ?_
  refine AllReadyH.cons (o:=(⟨some 51,_,_,_,_,none⟩:Oper)) rfl (fun K hK=>?_) AllReadyH.nil
  go_simp
  go_at_call 35
  refine (HWR.out _ (fM.out.below.trans (HD7.out.mono fM.out.below.size))).mono ?_
  rintro e w8 ⟨⟨sw,cw,rfl,hsw,hcw⟩,jP⟩
  have HD8:Hid (Below wc.heap.size wc w8):=acD (HD7.out.trans (jP.mono HD7.out.size))
  have Ej:=acD hsw
  have HCW:=acD hcw
  clear jP hsw hcw
  (try dsimp only)
  refine hK.out _ _ (HD8.out) (fun hHeld=>?_)
  clear hK K
  (try simp only [Act.put,sA,sZ,sS])
  refine wpAnyH_take (i:=7) (oi:=(⟨some 44,_,_,_,_,none⟩:Oper)) (v := .tuple #[.slice sw 80 cw, .int .i64 0]) rfl (by kernel_rfl) (by kernel_rfl) (by kernel_rfl) (fun _ _ _ h=>h) (Or.inl ⟨by rfl,?Xq⟩) (by assumption) ?Pz
  case Xq=>(intro u dD;(try dsimp only at dD);go_simp;try (with_reducible rfl))
  (try simp only [Act.put,sA,sZ,sS])
  refine wpAnyH_take (i:=8) (oi:=(⟨some 52,_,_,_,_,none⟩:Oper)) (v := .slice sw 80 cw) rfl (by kernel_rfl) (by kernel_rfl) (by kernel_rfl) (fun _ _ _ h=>h) (Or.inl ⟨by rfl,?Xp⟩) (by assumption) ?Py
  case Xp=>(intro u dD;(try dsimp only at dD);go_simp;try (with_reducible rfl))
  (try simp only [Act.put,sA,sZ,sS])
  refine wpAnyH_take (i:=10) (oi:=(⟨some 15,_,_,_,_,none⟩:Oper)) (v := .slice sw 80 cw) rfl (by kernel_rfl) (by kernel_rfl) (by kernel_rfl) (fun _ _ _ h=>h) (Or.inl ⟨by rfl,?Xo⟩) (by assumption) ?rest107
  case Xo=>(intro u dD;(try dsimp only at dD);go_simp;try (with_reducible rfl))
  (try simp only [Act.put,sA,sZ,sS])
  refine wpAnyH_take (i:=9) (oi:=(⟨some 53,_,_,_,_,none⟩:Oper)) (v := .int .i64 0) rfl (by kernel_rfl) (by kernel_rfl) (by kernel_rfl) (fun _ _ _ h=>h) (Or.inl ⟨by rfl,?Xn⟩) (by assumption) ?rest108
  case Xn=>(intro u dD;(try dsimp only at dD);go_simp;try (with_reducible rfl))
  (try simp only [Act.put,sA,sZ,sS])
  refine wpAnyH_take (i:=11) (oi:=(⟨some 13,_,_,_,_,none⟩:Oper)) (v := .int .i64 0) rfl (by kernel_rfl) (by kernel_rfl) (by kernel_rfl) (fun _ _ _ h=>h) (Or.inl ⟨by rfl,?IJ⟩) (by assumption) ?Px
  case IJ=>(intro u dD;(try dsimp only at dD);go_simp;try (with_reducible rfl))
  (try simp only [Act.put,sA,sZ,sS])
  refine wpAnyH_done (by kernel_rfl) ?_ _
  (try simp only [Exit.then])
  clear hHeld
  have fC:=acD (fM.out.kept HD8.out)
  have UC:=acD (JY.out.below HD8.out)
  clear fM JY HD6 HD7 HD8
  go_upto_region 11 with fail
  (try simp only [World.size_alloc,Act.put,sA,sZ,sS])
  obtain ⟨sl,cl,rfl, -, hsl, -⟩:=UC.out.form
  have HSL:=acD hsl
  clear hsl
  refine wp_region_held_drew (S:=fun u=>Below w8.heap.size w8 u) (by kernel_rfl) ((Below.refl _ w8).drew) (fun hHeld=>?_)
  refine wpAnyH_take (i:=0) (oi:=(⟨some 58,_,_,_,_,none⟩:Oper)) (v := .pointer (some ⟨w.heap.size,32,none⟩)) rfl (by kernel_rfl) (by kernel_rfl) (by kernel_rfl) (fun _ _ _ h=>h) (Or.inl ⟨by rfl,?II⟩) (by assumption) ?Pw
  case II=>(intro u dD;(try dsimp only at dD);go_simp;try (with_reducible rfl))
  (try simp only [Act.put,sA,sZ,sS])
  refine' wpAnyH_take (i:=1) (oi:=(⟨some 59,_,_,_,_,none⟩:Oper)) (v:=_) rfl (by kernel_rfl) (by kernel_rfl) (by kernel_rfl) (fun _ _ _ h=>h) (yieldsIf_load_mid (by rfl) _ _ rfl _ _ rfl (k1.map (Value.int .u8)) _ ?hS111 Tryd.underlying23 rfl (by rw [acE];exact Sl.bU nC.out)) (by assumption) ?rest111
  case hS111=>(intro u dD;(try dsimp only at dD);exact aN (Below.blk dD (fC.out.get 0 rfl) (fC.out.lt 0 rfl)) 32 _ (by rw [acE];exact HP1.out))
  (try simp only [Act.put,sA,sZ,sS])
  refine wpAnyH_take (i:=2) (oi:=(⟨some 60,_,_,_,_,none⟩:Oper)) (v := .int .i64 v) rfl (by kernel_rfl) (by kernel_rfl) (by kernel_rfl) (fun _ _ _ h=>h) (Or.inl ⟨by rfl,?hy112⟩) (by assumption) ?rest112
  case hy112=>(intro u dD;(try dsimp only at dD);go_simp;try (with_reducible rfl))
  (try simp only [Act.put,sA,sZ,sS])
  refine wpAnyH_take (i:=3) (oi:=(⟨some 61,_,_,_,_,none⟩:Oper)) (v := .slice sl L.length cl) rfl (by kernel_rfl) (by kernel_rfl) (by kernel_rfl) (fun _ _ _ h=>h) (Or.inl ⟨by rfl,?hy113⟩) (by assumption) ?Pv
  case hy113=>(intro u dD;(try dsimp only at dD);go_simp;try (with_reducible rfl))
  (try simp only [Act.put,sA,sZ,sS])
  refine wpAnyH_take (i:=4) (oi:=(⟨some 62,_,_,_,_,none⟩:Oper)) (v := .int .i64 L.length) rfl (by kernel_rfl) (by kernel_rfl) (by kernel_rfl) (fun _ _ _ h=>h) (Or.inl ⟨by rfl,?hy114⟩) (by assumption) ?Pq
  case hy114=>(intro u dD;(try dsimp only at dD);go_simp;try (with_reducible rfl))
  (try simp only [Act.put,sA,sZ,sS])
  refine wpAnyH_take (i:=5) (oi:=(⟨some 63,_,_,_,_,none⟩:Oper)) (v := .slice sl L.length cl) rfl (by kernel_rfl) (by kernel_rfl) (by kernel_rfl) (fun _ _ _ h=>h) (Or.inl ⟨by rfl,?hy115⟩) (by assumption) ?Pp
  case hy115=>(intro u dD;(try dsimp only at dD);go_simp;try (with_reducible rfl))
  (try simp only [Act.put,sA,sZ,sS])
  refine wpAnyH_take (i:=7) (oi:=(⟨some 65,_,_,_,_,none⟩:Oper)) (v := .slice sw 80 cw) rfl (by kernel_rfl) (by kernel_rfl) (by kernel_rfl) (fun _ _ _ h=>h) (Or.inl ⟨by rfl,?Xm⟩) (by assumption) ?rest116
  case Xm=>(intro u dD;(try dsimp only at dD);go_simp;try (with_reducible rfl))
  (try simp only [Act.put,sA,sZ,sS])
  refine' wpAnyH_take (i:=8) (oi:=(⟨some 66,_,_,_,_,none⟩:Oper)) (v:=_) rfl (by kernel_rfl) (by kernel_rfl) (by kernel_rfl) (fun _ _ _ h=>h) (yieldsIf_load_mid (by rfl) _ _ rfl _ _ rfl (CC.toList) _ ?hS117 Tryd.underlying28 rfl (by simpa using HCI.out)) (by assumption) ?rest117
  case hS117=>(intro u dD;(try dsimp only at dD);exact aN (Below.blk dD (fC.out.get 2 rfl) (fC.out.lt 2 rfl)) 0 _ (by rw [List.drop_zero];exact List.take_of_length_le (by simp)))
  (try simp only [Act.put,sA,sZ,sS])
  have HDd:Hid (Below w8.heap.size w8 w8.drew):=acD (Below.refl _ w8).drew
  refine wpAnyH_ready (rs:=[6,14]) (by kernel_rfl) (by simp) ?_
  refine AllReadyH.cons (o:=(⟨some 64,_,_,_,_,none⟩:Oper)) rfl (fun K hK=>?r140_6) (AllReadyH.cons (o:=(⟨some 16,_,_,_,_,none⟩:Oper)) rfl (fun K hK=>?r140_14) AllReadyH.nil)
  case r140_6 =>
   go_simp
   go_at_call 38
   refine (HRT.out _ _ _ (fC.out.below.trans (HDd.out.mono fC.out.below.size)) (HSL.out.below HDd.out)).mono ?_
   rintro e wa ⟨rfl,hb⟩
   have tL:Hid (Below w8.heap.size w8 wa):=acD (HDd.out.trans (hb.mono HDd.out.size))
   clear hb
   (try dsimp only)
   refine hK.out _ _ (tL.out) (fun hHeld=>?_)
   clear hK K
   (try simp only [Act.put,sA,sZ,sS])
   refine wpAnyH_take (i:=9) (oi:=(⟨some 67,_,_,_,_,none⟩:Oper)) (v := .agg (M0 sw cw)) rfl (by kernel_rfl) (by kernel_rfl) (by kernel_rfl) (fun _ _ _ h=>h) (Or.inl ⟨by rfl,?hy138⟩) (by assumption) ?rest138
   case hy138=>(intro u dD;(try dsimp only at dD);exact Ws (Eq.trans (congrArg (fun A=>(Instr.build 30 A).run Tryd.prog u) (by first|rfl|kernel_rfl)) (HBM.out u sw cw)))
   (try simp only [Act.put,sA,sZ,sS])
   refine wpAnyH_ready (rs:=[10,14]) (by kernel_rfl) (by simp) ?_
   refine AllReadyH.cons (o:=(⟨some 68,_,_,_,_,none⟩:Oper)) rfl (fun K hK=>?r139_10) (AllReadyH.cons (o:=(⟨some 16,_,_,_,_,none⟩:Oper)) rfl (fun K hK=>?r139_14) AllReadyH.nil)
   case r139_10 =>
    go_simp
    go_at_call 37
    refine (HSM.out _ _ _ (fC.out.below.trans (tL.out.mono fC.out.below.size)) (Ej.out.below tL.out)).mono ?_
    rintro e UQ ⟨s2,c2,rfl,hx,hb⟩
    have kg:Hid (Below w8.heap.size w8 UQ):=acD (tL.out.trans (hb.mono tL.out.size))
    have HX:=acD hx
    have iK:=acD hx.lt
    clear hb hx
    (try dsimp only)
    refine hK.out _ _ (kg.out) (fun hHeld=>?_)
    clear hK K
    (try simp only [Act.put,sA,sZ,sS])
    refine wpAnyH_take (i:=11) (oi:=(⟨some 57,_,_,_,_,none⟩:Oper)) (v := .tuple #[.agg (MS s2 c2), .int .i64 0]) rfl (by kernel_rfl) (by kernel_rfl) (by kernel_rfl) (fun _ _ _ h=>h) (Or.inl ⟨by rfl,?Xd⟩) (by assumption) ?rest132
    case Xd=>(intro u dD;(try dsimp only at dD);go_simp;try (with_reducible rfl))
    (try simp only [Act.put,sA,sZ,sS])
    refine wpAnyH_take (i:=12) (oi:=(⟨some 69,_,_,_,_,none⟩:Oper)) (v := .agg (MS s2 c2)) rfl (by kernel_rfl) (by kernel_rfl) (by kernel_rfl) (fun _ _ _ h=>h) (Or.inl ⟨by rfl,?hy133⟩) (by assumption) ?rest133
    case hy133=>(intro u dD;(try dsimp only at dD);go_simp;try (with_reducible rfl))
    (try simp only [Act.put,sA,sZ,sS])
    refine wpAnyH_take (i:=13) (oi:=(⟨some 70,_,_,_,_,none⟩:Oper)) (v := .int .i64 0) rfl (by kernel_rfl) (by kernel_rfl) (by kernel_rfl) (fun _ _ _ h=>h) (Or.inl ⟨by rfl,?hy134⟩) (by assumption) ?rest134
    case hy134=>(intro u dD;(try dsimp only at dD);go_simp;try (with_reducible rfl))
    (try simp only [Act.put,sA,sZ,sS])
    refine wpAnyH_ready (rs:=[14]) (by kernel_rfl) (by simp) ?_
    refine AllReadyH.cons (o:=(⟨some 16,_,_,_,_,none⟩:Oper)) rfl (fun K hK=>?r137_14) AllReadyH.nil
    case r137_14 =>
     refine bg rfl 30 rfl _ (HZM.out _) ?_
     have HG:Hid ((UQ.alloc (.cells mz 30)).heap[UQ.heap.size]? = some (.cells mz 30 (0,0))):=acD (aG _ _)
     have Ur:Hid (w8.heap.size≤UQ.heap.size):=acD kg.out.size
     have oM:Hid (Below w8.heap.size w8 (UQ.alloc (.cells mz 30))):=acD (kg.out.alloc kg.out.size _)
     have HX:=acD (HX.out.alloc (.cells mz 30))
     have HXN:Hid (∀ k,(Value.slice s2 80 c2).ownBlock=some k→k≠UQ.heap.size):=acD (fun k e=>by have:=iK.out k e;omega)
     generalize UQ.heap.size=g16 at HG Ur HXN ⊢
     generalize UQ.alloc (.cells mz 30)=wc2 at HG oM HX ⊢
     refine hK.out _ _ (oM.out) (fun hHeld=>?_)
     clear hK K
     (try simp only [Act.put,sA,sZ,sS])
     refine wpAnyH_ready (rs:=[15]) (by kernel_rfl) (by simp) ?_
     refine AllReadyH.cons (o:=(⟨none,_,_,_,_,none⟩:Oper)) rfl (fun K hK=>?r136_15) AllReadyH.nil
     case r136_15 =>
      refine aH rfl 30 (.tmp 16) (.tmp 69) rfl g16 _ _ 30 HG.out rfl rfl (by rw [(F3.out s2 c2).1,HMZ.out]) (Cy.out s2 c2) (F3.out s2 c2).2 ?_
      intro wE hbE Ao hzE
      have HGE:=acD hbE
      have HXE:=acD (HX.out.kept Ao (fun k e=>HXN.out k e))
      have BA:Hid (Below w8.heap.size w8 wE):=acD (oM.out.trans ⟨Ao.os,Ao.tape,Ao.output,Ao.size,fun k hk=>Ao.block k (acG hk oM.out.size) (fun e=>by have e:k=g16:=e;have:=Ur.out;omega)⟩)
      clear hbE Ao hzE
      refine hK.out _ _ (BA.out) (fun hHeld=>?_)
      clear hK K
      (try simp only [Act.put,sA,sZ,sS])
      refine wpAnyH_take (i:=16) (oi:=(⟨some 13,_,_,_,_,none⟩:Oper)) (v := .int .i64 0) rfl (by kernel_rfl) (by kernel_rfl) (by kernel_rfl) (fun _ _ _ h=>h) (Or.inl ⟨by rfl,?hy135⟩) (by assumption) ?rest135
      case hy135=>(intro u dD;(try dsimp only at dD);go_simp;try (with_reducible rfl))
      (try simp only [Act.put,sA,sZ,sS])
      refine wpAnyH_done (by kernel_rfl) ?_ _
      (try simp only [Exit.then])
      clear hHeld
      have Db:=acD (fC.out.below.trans (BA.out.mono fC.out.below.size))
      have HOE:=acD (UC.out.below BA.out)
      have hsx:Src wE s2 80 ws:=by
       obtain ⟨sa,c,e, -, -, h, -⟩:=HXE.out.form
       injection e with e1 e2 e3
       rw [e1,e2];exact h
      have HSX:=acD hsx
      clear hsx
      go_wp2_with (first|((with_reducible refine aS 75 ?_);refine wpList_load_row rfl 30 _ rfl g16 rfl 30 _ (0,0) _ HGE.out Tryd.underlying30 rfl (Cy.out s2 c2) ?_)|((with_reducible show Calls _ 6 _ _ _);go_at_call 6; refine (HPM.out _ _ _ Db.out HSX.out).mono ?_;rintro e wF ⟨vv,rfl,ho,hb⟩;have HPF:=acD ho;have rF:=acD hb;clear ho hb))
      all_goals (try simp only [Exit.then])
      go_ret3
      exact ⟨_,_,rfl,HPF.out.mono Db.out.size,(HOE.out.below rF.out).mono (acH HLO.out.1),Db.out.trans (rF.out.mono Db.out.size)⟩
   case r139_14 =>
    refine bg rfl 30 rfl _ (HZM.out _) ?_
    have HG:Hid ((wa.alloc (.cells mz 30)).heap[wa.heap.size]? = some (.cells mz 30 (0,0))):=acD (aG _ _)
    have Ur:Hid (w8.heap.size≤wa.heap.size):=acD tL.out.size
    have kg:Hid (Below w8.heap.size w8 (wa.alloc (.cells mz 30))):=acD (tL.out.alloc tL.out.size _)
    generalize wa.heap.size=g16 at HG Ur ⊢
    generalize wa.alloc (.cells mz 30)=UQ at HG kg ⊢
    refine hK.out _ _ (kg.out) (fun hHeld=>?_)
    clear hK K
    (try simp only [Act.put,sA,sZ,sS])
    refine wpAnyH_ready (rs:=[10]) (by kernel_rfl) (by simp) ?_
    refine AllReadyH.cons (o:=(⟨some 68,_,_,_,_,none⟩:Oper)) rfl (fun K hK=>?r131_10) AllReadyH.nil
    case r131_10 =>
     go_simp
     go_at_call 37
     refine (HSM.out _ _ _ (fC.out.below.trans (kg.out.mono fC.out.below.size)) (Ej.out.below kg.out)).mono ?_
     rintro e wc2 ⟨s2,c2,rfl,hx,hb⟩
     have oM:Hid (Below w8.heap.size w8 wc2):=acD (kg.out.trans (hb.mono kg.out.size))
     have HX:=acD hx
     have iK:=acD hx.lt
     have HXN:Hid (∀ k,(Value.slice s2 80 c2).ownBlock=some k→k≠g16):=acD (fun k e=>by have:=iK.out k e;have:=aO HG.out;omega)
     have HG:=acD (Below.blk hb HG.out (aO HG.out))
     clear hb hx
     (try dsimp only)
     refine hK.out _ _ (oM.out) (fun hHeld=>?_)
     clear hK K
     (try simp only [Act.put,sA,sZ,sS])
     refine wpAnyH_take (i:=11) (oi:=(⟨some 57,_,_,_,_,none⟩:Oper)) (v := .tuple #[.agg (MS s2 c2), .int .i64 0]) rfl (by kernel_rfl) (by kernel_rfl) (by kernel_rfl) (fun _ _ _ h=>h) (Or.inl ⟨by rfl,?Xg⟩) (by assumption) ?Pj
     case Xg=>(intro u dD;(try dsimp only at dD);go_simp;try (with_reducible rfl))
     (try simp only [Act.put,sA,sZ,sS])
     refine wpAnyH_take (i:=12) (oi:=(⟨some 69,_,_,_,_,none⟩:Oper)) (v := .agg (MS s2 c2)) rfl (by kernel_rfl) (by kernel_rfl) (by kernel_rfl) (fun _ _ _ h=>h) (Or.inl ⟨by rfl,?Xf⟩) (by assumption) ?Ph
     case Xf=>(intro u dD;(try dsimp only at dD);go_simp;try (with_reducible rfl))
     (try simp only [Act.put,sA,sZ,sS])
     refine wpAnyH_take (i:=13) (oi:=(⟨some 70,_,_,_,_,none⟩:Oper)) (v := .int .i64 0) rfl (by kernel_rfl) (by kernel_rfl) (by kernel_rfl) (fun _ _ _ h=>h) (Or.inl ⟨by rfl,?hy128⟩) (by assumption) ?Pg
     case hy128=>(intro u dD;(try dsimp only at dD);go_simp;try (with_reducible rfl))
     (try simp only [Act.put,sA,sZ,sS])
     refine wpAnyH_ready (rs:=[15]) (by kernel_rfl) (by simp) ?_
     refine AllReadyH.cons (o:=(⟨none,_,_,_,_,none⟩:Oper)) rfl (fun K hK=>?r130_15) AllReadyH.nil
     case r130_15 =>
      refine aH rfl 30 (.tmp 16) (.tmp 69) rfl g16 _ _ 30 HG.out rfl rfl (by rw [(F3.out s2 c2).1,HMZ.out]) (Cy.out s2 c2) (F3.out s2 c2).2 ?_
      intro wE hbE Ao hzE
      have HGE:=acD hbE
      have HXE:=acD (HX.out.kept Ao (fun k e=>HXN.out k e))
      have BA:Hid (Below w8.heap.size w8 wE):=acD (oM.out.trans ⟨Ao.os,Ao.tape,Ao.output,Ao.size,fun k hk=>Ao.block k (acG hk oM.out.size) (fun e=>by have e:k=g16:=e;have:=Ur.out;omega)⟩)
      clear hbE Ao hzE
      refine hK.out _ _ (BA.out) (fun hHeld=>?_)
      clear hK K
      (try simp only [Act.put,sA,sZ,sS])
      refine wpAnyH_take (i:=16) (oi:=(⟨some 13,_,_,_,_,none⟩:Oper)) (v := .int .i64 0) rfl (by kernel_rfl) (by kernel_rfl) (by kernel_rfl) (fun _ _ _ h=>h) (Or.inl ⟨by rfl,?Xe⟩) (by assumption) ?rest129
      case Xe=>(intro u dD;(try dsimp only at dD);go_simp;try (with_reducible rfl))
      (try simp only [Act.put,sA,sZ,sS])
      refine wpAnyH_done (by kernel_rfl) ?_ _
      (try simp only [Exit.then])
      clear hHeld
      have Db:=acD (fC.out.below.trans (BA.out.mono fC.out.below.size))
      have HOE:=acD (UC.out.below BA.out)
      have hsx:Src wE s2 80 ws:=by
       obtain ⟨sa,c,e, -, -, h, -⟩:=HXE.out.form
       injection e with e1 e2 e3
       rw [e1,e2];exact h
      have HSX:=acD hsx
      clear hsx
      go_wp2_with (first|((with_reducible refine aS 75 ?_);refine wpList_load_row rfl 30 _ rfl g16 rfl 30 _ (0,0) _ HGE.out Tryd.underlying30 rfl (Cy.out s2 c2) ?_)|((with_reducible show Calls _ 6 _ _ _);go_at_call 6; refine (HPM.out _ _ _ Db.out HSX.out).mono ?_;rintro e wF ⟨vv,rfl,ho,hb⟩;have HPF:=acD ho;have rF:=acD hb;clear ho hb))
      all_goals (try simp only [Exit.then])
      go_ret3
      exact ⟨_,_,rfl,HPF.out.mono Db.out.size,(HOE.out.below rF.out).mono (acH HLO.out.1),Db.out.trans (rF.out.mono Db.out.size)⟩
  case r140_14 =>
   refine bg rfl 30 rfl _ (HZM.out _) ?_
   have HG:Hid ((w8.drew.alloc (.cells mz 30)).heap[w8.drew.heap.size]? = some (.cells mz 30 (0,0))):=acD (aG _ _)
   have Ur:Hid (w8.heap.size≤w8.drew.heap.size):=acD HDd.out.size
   have tL:Hid (Below w8.heap.size w8 (w8.drew.alloc (.cells mz 30))):=acD (HDd.out.alloc HDd.out.size _)
   generalize w8.drew.heap.size=g16 at HG Ur ⊢
   generalize w8.drew.alloc (.cells mz 30)=wa at HG tL ⊢
   refine hK.out _ _ (tL.out) (fun hHeld=>?_)
   clear hK K
   (try simp only [Act.put,sA,sZ,sS])
   refine wpAnyH_ready (rs:=[6]) (by kernel_rfl) (by simp) ?_
   refine AllReadyH.cons (o:=(⟨some 64,_,_,_,_,none⟩:Oper)) rfl (fun K hK=>?r125_6) AllReadyH.nil
   case r125_6 =>
    go_simp
    go_at_call 38
    refine (HRT.out _ _ _ (fC.out.below.trans (tL.out.mono fC.out.below.size)) (HSL.out.below tL.out)).mono ?_
    rintro e UQ ⟨rfl,hb⟩
    have kg:Hid (Below w8.heap.size w8 UQ):=acD (tL.out.trans (hb.mono tL.out.size))
    have HG:=acD (Below.blk hb HG.out (aO HG.out))
    clear hb
    (try dsimp only)
    refine hK.out _ _ (kg.out) (fun hHeld=>?_)
    clear hK K
    (try simp only [Act.put,sA,sZ,sS])
    refine wpAnyH_take (i:=9) (oi:=(⟨some 67,_,_,_,_,none⟩:Oper)) (v := .agg (M0 sw cw)) rfl (by kernel_rfl) (by kernel_rfl) (by kernel_rfl) (fun _ _ _ h=>h) (Or.inl ⟨by rfl,?Xl⟩) (by assumption) ?Pn
    case Xl=>(intro u dD;(try dsimp only at dD);exact Ws (Eq.trans (congrArg (fun A=>(Instr.build 30 A).run Tryd.prog u) (by first|rfl|kernel_rfl)) (HBM.out u sw cw)))
    (try simp only [Act.put,sA,sZ,sS])
    refine wpAnyH_ready (rs:=[10]) (by kernel_rfl) (by simp) ?_
    refine AllReadyH.cons (o:=(⟨some 68,_,_,_,_,none⟩:Oper)) rfl (fun K hK=>?r124_10) AllReadyH.nil
    case r124_10 =>
     go_simp
     go_at_call 37
     refine (HSM.out _ _ _ (fC.out.below.trans (kg.out.mono fC.out.below.size)) (Ej.out.below kg.out)).mono ?_
     rintro e wc2 ⟨s2,c2,rfl,hx,hb⟩
     have oM:Hid (Below w8.heap.size w8 wc2):=acD (kg.out.trans (hb.mono kg.out.size))
     have HX:=acD hx
     have iK:=acD hx.lt
     have HXN:Hid (∀ k,(Value.slice s2 80 c2).ownBlock=some k→k≠g16):=acD (fun k e=>by have:=iK.out k e;have:=aO HG.out;omega)
     have HG:=acD (Below.blk hb HG.out (aO HG.out))
     clear hb hx
     (try dsimp only)
     refine hK.out _ _ (oM.out) (fun hHeld=>?_)
     clear hK K
     (try simp only [Act.put,sA,sZ,sS])
     refine wpAnyH_take (i:=11) (oi:=(⟨some 57,_,_,_,_,none⟩:Oper)) (v := .tuple #[.agg (MS s2 c2), .int .i64 0]) rfl (by kernel_rfl) (by kernel_rfl) (by kernel_rfl) (fun _ _ _ h=>h) (Or.inl ⟨by rfl,?Xk⟩) (by assumption) ?Pm
     case Xk=>(intro u dD;(try dsimp only at dD);go_simp;try (with_reducible rfl))
     (try simp only [Act.put,sA,sZ,sS])
     refine wpAnyH_take (i:=12) (oi:=(⟨some 69,_,_,_,_,none⟩:Oper)) (v := .agg (MS s2 c2)) rfl (by kernel_rfl) (by kernel_rfl) (by kernel_rfl) (fun _ _ _ h=>h) (Or.inl ⟨by rfl,?Xj⟩) (by assumption) ?Pk
     case Xj=>(intro u dD;(try dsimp only at dD);go_simp;try (with_reducible rfl))
     (try simp only [Act.put,sA,sZ,sS])
     refine wpAnyH_take (i:=13) (oi:=(⟨some 70,_,_,_,_,none⟩:Oper)) (v := .int .i64 0) rfl (by kernel_rfl) (by kernel_rfl) (by kernel_rfl) (fun _ _ _ h=>h) (Or.inl ⟨by rfl,?Xi⟩) (by assumption) ?rest121
     case Xi=>(intro u dD;(try dsimp only at dD);go_simp;try (with_reducible rfl))
     (try simp only [Act.put,sA,sZ,sS])
     refine wpAnyH_ready (rs:=[15]) (by kernel_rfl) (by simp) ?_
     refine AllReadyH.cons (o:=(⟨none,_,_,_,_,none⟩:Oper)) rfl (fun K hK=>?r123_15) AllReadyH.nil
     case r123_15 =>
      refine aH rfl 30 (.tmp 16) (.tmp 69) rfl g16 _ _ 30 HG.out rfl rfl (by rw [(F3.out s2 c2).1,HMZ.out]) (Cy.out s2 c2) (F3.out s2 c2).2 ?_
      intro wE hbE Ao hzE
      have HGE:=acD hbE
      have HXE:=acD (HX.out.kept Ao (fun k e=>HXN.out k e))
      have BA:Hid (Below w8.heap.size w8 wE):=acD (oM.out.trans ⟨Ao.os,Ao.tape,Ao.output,Ao.size,fun k hk=>Ao.block k (acG hk oM.out.size) (fun e=>by have e:k=g16:=e;have:=Ur.out;omega)⟩)
      clear hbE Ao hzE
      refine hK.out _ _ (BA.out) (fun hHeld=>?_)
      clear hK K
      (try simp only [Act.put,sA,sZ,sS])
      refine wpAnyH_take (i:=16) (oi:=(⟨some 13,_,_,_,_,none⟩:Oper)) (v := .int .i64 0) rfl (by kernel_rfl) (by kernel_rfl) (by kernel_rfl) (fun _ _ _ h=>h) (Or.inl ⟨by rfl,?Xh⟩) (by assumption) ?rest122
      case Xh=>(intro u dD;(try dsimp only at dD);go_simp;try (with_reducible rfl))
      (try simp only [Act.put,sA,sZ,sS])
      refine wpAnyH_done (by kernel_rfl) ?_ _
      (try simp only [Exit.then])
      clear hHeld
      have Db:=acD (fC.out.below.trans (BA.out.mono fC.out.below.size))
      have HOE:=acD (UC.out.below BA.out)
      have hsx:Src wE s2 80 ws:=by
       obtain ⟨sa,c,e, -, -, h, -⟩:=HXE.out.form
       injection e with e1 e2 e3
       rw [e1,e2];exact h
      have HSX:=acD hsx
      clear hsx
      go_wp2_with (first|((with_reducible refine aS 75 ?_);refine wpList_load_row rfl 30 _ rfl g16 rfl 30 _ (0,0) _ HGE.out Tryd.underlying30 rfl (Cy.out s2 c2) ?_)|((with_reducible show Calls _ 6 _ _ _);go_at_call 6; refine (HPM.out _ _ _ Db.out HSX.out).mono ?_;rintro e wF ⟨vv,rfl,ho,hb⟩;have HPF:=acD ho;have rF:=acD hb;clear ho hb))
      all_goals (try simp only [Exit.then])
      go_ret3
      exact ⟨_,_,rfl,HPF.out.mono Db.out.size,(HOE.out.below rF.out).mono (acH HLO.out.1),Db.out.trans (rF.out.mono Db.out.size)⟩
end Go.Proofs.YthdgbgleklkaiaaDoor.Ms
