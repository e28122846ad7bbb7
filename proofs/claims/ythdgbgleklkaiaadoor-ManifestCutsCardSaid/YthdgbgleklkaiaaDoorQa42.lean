/- The document's (Set).Manifest. Condition: as each theorem says. -/

import Derived.Test.YthdgbgleklkaiaaDoorQa21
import Derived.Test.YthdgbgleklkaiaaDoorQa22
import Derived.Test.YthdgbgleklkaiaaDoorQa33
import Derived.Test.YthdgbgleklkaiaaDoorQa35
import Derived.Test.YthdgbgleklkaiaaDoorQa39
import Derived.Test.YthdgbgleklkaiaaDoorQa40
import Derived.Test.YthdgbgleklkaiaaDoorQa41
set_option linter.unusedSimpArgs false
set_option linter.unusedVariables false
set_option maxRecDepth 100000
set_option maxHeartbeats 16000000
namespace Go.Proofs.YthdgbgleklkaiaaDoor.Ms
open Go.RowKit Lm Fp Cu Sl Sc Ce
theorem _root_.Go.Proofs.YthdgbgleklkaiaaDoor.dS.keptB {T:Nat→Prop} {w w':World} {B:Nat} {v:Value} {L:List (List Int)} (h:dS w B v L) (k:Kept T w w') (hT:∀ g,B≤g→¬ T g):dS w' B v L:=by
 obtain ⟨vs,h1,h2,h3⟩:=h
 exact ⟨vs,nC h1 k (fun g hg=>hT g (World.ownsRow.lt h1 g hg).1),h2,fun i hi=>(h3 i hi).kept k (fun g hg _=>hT g hg)⟩
theorem UZ {m:Sem Value} {v:Value} {w w':World} (h:m.run Tryd.prog w = .ok v w'):(do pure (Next.value (← m)):Sem Next).run Tryd.prog w = .ok (.value v) w':=by
 rw [Sem.run_bind,h]
 rfl
theorem size_set (w:World):(Tryd.prog.info? 47).map (·.size)=some 128:=by kernel_rfl
theorem QD {k0 k1 k2 k3 K pk tk dk ws R sg:List Int} {CC:Array Value} {L:List (List Int)} (id v:Int) (sp:Option Addr) (n cp:Nat) (w:World) (h0:k0.length=32) (h1:k1.length=32) (h2:k2.length=32) (h3:k3.length=32)
  (hK:K.length=32) (hCs:CC.size=97) (hC1:CC.all (·.oneCell')=true)
  (hKO:∀ u,Below w.heap.size w u→Calls Tryd.prog 31 #[.agg (kT k0 k1 k2 k3), .int .i64 v] u fun e w'=>e = .returned (.agg (arr .u8 K))∧Below u.heap.size u w')
  (hMK:∀ u,Below w.heap.size w u→Calls Tryd.prog 32 #[.agg (arr .u8 K), .int .i64 v, .slice sp n cp] u fun e w'=>∃ lv,e = .returned (.tuple #[lv, .int .i64 0])∧dS w' u.heap.size lv L∧Below u.heap.size u w')
  (hPB:∀ u,Below w.heap.size w u→Calls Tryd.prog 34 #[.agg (arr .u8 k1)] u fun e w'=>e = .returned (.agg (arr .u8 pk))∧Below u.heap.size u w')
  (hSC:∀ u,Below w.heap.size w u→Calls Tryd.prog 33 #[.agg (arr .u8 k0), .int .i64 id, .agg (arr .u8 pk)] u fun e w'=>e = .returned (.tuple #[.agg CC, .int .i64 0])∧Below u.heap.size u w')
  (hLP:∀ u,Below w.heap.size w u→Calls Tryd.prog 36 #[.agg (arr .u8 k2)] u fun e w'=>e = .returned (.agg (arr .u8 tk))∧Below u.heap.size u w')
  (hSH:∀ u g,Below w.heap.size w u→Src u (some ⟨g,0,none⟩) 32 K→Calls Tryd.prog 14 #[.slice (some ⟨g,0,none⟩) 32 32] u fun e w'=>e = .returned (.agg (arr .u8 dk))∧Below u.heap.size u w')
  (hWR:∀ u,Below w.heap.size w u→Calls Tryd.prog 35 #[.agg (arr .u8 tk), .agg (arr .u8 dk), .agg (arr .u8 K)] u fun e w'=>(∃ sa c,e = .returned (.tuple #[.slice sa 80 c, .int .i64 0])∧Src w' sa 80 ws∧80≤c)∧Below u.heap.size u w')
  (M0 MS:Option Addr→Nat→Array Value) (PB:List Int) (hMS:∀ s c,(MS s c).size=196∧(MS s c).all (·.oneCell')=true)
  (hBM:∀ u s c,(Instr.build 30 #[(0, .int .i64 v),(1, .int .i64 L.length),(2, .agg (arr .u8 R)),(3, .slice s 80 c),(4, .agg CC)]).run Tryd.prog u = .ok (.agg (M0 s c)) u)
  (hRT:∀ u s c,Below w.heap.size w u→qD u s L.length L→Calls Tryd.prog 38 #[.slice s L.length c] u fun e w'=>e = .returned (.agg (arr .u8 R))∧Below u.heap.size u w')
  (hSM:∀ u s c,Below w.heap.size w u→Src u s 80 ws→Calls Tryd.prog 37 #[.agg (arr .u8 k1), .agg (M0 s c)] u fun e w'=>∃ s2 c2,e = .returned (.tuple #[.agg (MS s2 c2), .int .i64 0])∧aV w' u.heap.size (.slice s2 80 c2) ws∧Below u.heap.size u w')
  (hPM:∀ u s c,Below w.heap.size w u→Src u s 80 ws→Calls Tryd.prog 6 #[.agg (MS s c)] u fun e w'=>∃ vv,e = .returned (.tuple #[vv, .int .i64 0])∧aV w' u.heap.size vv PB∧Below u.heap.size u w') :
  Calls Tryd.prog 16 #[.agg (kT k0 k1 k2 k3), .int .i64 id, .int .i64 v, .slice sp n cp] w fun e w'=>∃ xv lv,e = .returned (.tuple #[xv,lv, .int .i64 0])∧aV w' w.heap.size xv PB∧dS w' w.heap.size lv L∧Below w.heap.size w w':=by
 have hpt:=uU h0 h1 h2 h3
 have HP0:=Lib.hid hpt.1
 have HP1:=Lib.hid hpt.2.1
 have EZ:=Lib.hid hpt.2.2.1
 have HKO:=Lib.hid hKO
 have HMK:=Lib.hid hMK
 have HPB:=Lib.hid hPB
 have HSC:=Lib.hid hSC
 have HLP:=Lib.hid hLP
 have HSH:=Lib.hid hSH
 have HWR:=Lib.hid hWR
 have Bq:=Lib.hid hMS
 have HBM:=Lib.hid hBM
 have HRT:=Lib.hid hRT
 have Z6:=Lib.hid hSM
 have HPM:=Lib.hid hPM
 obtain ⟨mz,hmz⟩:∃ m,m=Mf.gU:=⟨_,rfl⟩
 have HZM:Hid (∀ w,(zeroValue 30).run Tryd.prog w = .ok (.agg mz) w):=Lib.hid (by rw [hmz];exact Mf.mo)
 have HMZ:Hid (mz.size=196):=Lib.hid (by rw [hmz];exact Mf.bL rfl rfl rfl rfl)
 have MG:Hid (∀ s c,(Tryd.prog.info? 30).map (·.size)=some (MS s c).size):=Lib.hid (fun s c=>by rw [(hMS s c).1];exact Mf.dH)
 have HCI:Hid ((Tryd.prog.info? 28).map (·.size)=some CC.size):=Lib.hid (by rw [hCs];exact kK)
 have SB:=Lib.hid h0
 have oH:=Lib.hid h1
 have HL2:=Lib.hid h2
 have l9:=Lib.hid hK
 have IV:=Lib.hid hCs
 have Br:=Lib.hid hC1
 have IB:Hid ((Tryd.prog.info? 47).map (·.size)=some (kT k0 k1 k2 k3).size):=Lib.hid (by rw [Ca h0 h1 h2 h3];exact size_set w)
 obtain ⟨zn,hzn⟩:∃ zs:List Int,zs=List.replicate 32 0:=⟨_,rfl⟩
 have HZ:Hid (∀ w,(zeroValue 23).run Tryd.prog w = .ok (.agg (arr .u8 zn)) w):=Lib.hid (by intro w;rw [hzn];exact zero_num w)
 have HLz:Hid (zn.length=32):=Lib.hid (by rw [hzn];rfl)
 have HKI:Hid ((Tryd.prog.info? 23).map (·.size)=some (arr .u8 K).size):=Lib.hid (Sl.bE hK)
 have HKZ:Hid ((arr .u8 K).size=(arr .u8 zn).size):=Lib.hid (by rw [aF,aF,hK,HLz.out])
 have HKA:Hid ((arr .u8 K).all (·.oneCell')=true):=Lib.hid (av _ _)
 obtain ⟨zc,hzc⟩:∃ c,c=dh 0 (List.replicate 32 0) (List.replicate 64 0):=⟨_,rfl⟩
 have HZC:Hid (∀ w,(zeroValue 28).run Tryd.prog w = .ok (.agg zc) w):=Lib.hid (by intro w;rw [hzc];exact uM w)
 have HZS:Hid (zc.size=97):=Lib.hid (by rw [hzc];exact jD (by simp) (by simp))
 generalize kT k0 k1 k2 k3=SC at hpt HP0 HP1 EZ HKO IB hKO ⊢
 have bN:=Lib.hid (bM.one w SC 47)
 clear hpt hKO hMK hPB hSC hLP hSH hWR hMS hBM hRT hSM hPM hmz h0 h1 h2 h3 hK hCs hC1 hzn hzc
 go_enter Tryd.func16, Tryd.ntmps16
 go_upto_region 1 with fail
 generalize w.alloc (.cells SC 47)=wb at bN ⊢
 go_upto_region 2 with (first|((with_reducible refine aS 18 ?_);refine wpList_load_row rfl 47 _ rfl (w.heap.size) rfl 47 _ (0,0) _ (bN.out.get 0 rfl) Tryd.underlying47 rfl IB.out ?_)|((with_reducible show Calls _ 31 _ _ _);go_at_call 31; refine (HKO.out _ bN.out.below).mono ?_;rintro e w1 ⟨rfl,hb⟩;have gY:=Lib.hid (bN.out.kept hb);clear hb)|((with_reducible refine aS 11 ?_);refine aj rfl 23 rfl _ (HZ.out _) ?_;have HS2:=Lib.hid (gY.out.alloc (arr .u8 zn) 23);generalize w1.heap.size=g11 at HS2 ⊢; generalize w1.alloc (.cells (arr .u8 zn) 23)=w2 at HS2 ⊢)|((with_reducible refine aT 11 ?_);refine ah rfl 23 _ _ rfl (g11) _ _ 23 (HS2.out.get 1 rfl) rfl rfl HKZ.out HKI.out HKA.out ?_;intro w3 hb hk hz;have F3:=Lib.hid (HS2.out.put 1 rfl hk hb);clear hb hk hz))
 (try simp only [World.size_alloc,Act.put,sA,sZ,sS])
 have HLO:Hid (w.heap.size < w3.heap.size∧g11 < w3.heap.size):=Lib.hid ⟨F3.out.lt 0 rfl,F3.out.lt 1 rfl⟩
 go_upto_region 5 with (first|((with_reducible refine aS 22 ?_);refine ak rfl 23 _ rfl (g11) 0 _ 23 (0,0) _ (F3.out.get 1 rfl) rfl .u8 K (au _ _) Tryd.underlying23 rfl (Sl.bU l9.out) ?_)|((with_reducible show Calls _ 32 _ _ _);go_at_call 32; refine (HMK.out _ F3.out.below).mono ?_;rintro e w4 ⟨lv,rfl,ho,hb⟩;have EU:=Lib.hid (F3.out.kept hb);have HO:=Lib.hid ho;clear ho;clear hb))
 (try simp only [World.size_alloc,Act.put,sA,sZ,sS])
 generalize w3.heap.size=B0 at HLO HO
 refine gK (T:=fun g=>∃ e∈[(w.heap.size,SC, 47),(g11,arr .u8 K, 23)],e.1=g) (w:=w4) (sy:=[Yp (w.heap.size) 0,Yr .u8 k0,Yv (.int .i64 id),Yp (w.heap.size) 32,Yr .u8 k1,Yr .u8 pk,Yv (.tuple #[.agg CC, .int .i64 0]),Yv (.tuple #[.agg CC, .int .i64 0]),Yv (.agg CC),Yv (.int .i64 0),Yn zc 28, Y0,Yv (.int .i64 0)]) (pt:=[(11,12,Bp CC 28)]) (by kernel_rfl) (by kernel_rfl) (by kernel_rfl) EU.out.holdsT (fun hW=>?s5) (fun q5 x5 u5 _ hH=>?e5)
 case s5 =>
  refine jw hW ?_
  refine vI hW ?_ 0 0 SC 47 JD SB.out HP0.out
  refine jw hW ?_
  refine jw hW ?_
  refine vI hW ?_ 0 32 SC 47 JD oH.out HP1.out
  refine SyD hW ?_ (vs:=[.agg (arr .u8 k1)]) (fun u k=>HPB.out u (EU.out.Me k))
  refine SyD hW ?_ (vs:=[.agg (arr .u8 k0), .int .i64 id, .agg (arr .u8 pk)]) (fun u k=>HSC.out u (EU.out.Me k))
  iterate 3 refine jw hW ?_
  refine SyA hW ?_ HZC.out
  refine SySa hW ?_ 12 zc 28 kK HZS.out IV.out Br.out
  refine jw hW ?_
  exact SyN
 case e5 =>
  have gu:=Lib.hid (Holds.blkT EU.out hH [0,1,12] [(w.heap.size,SC, 47),(g11,arr .u8 K, 23),(q5 10,CC, 28)] (by decide) (by kernel_rfl))
  have Sv:=Lib.hid (HO.out.keptB hH.keep (fun g hg=>by rintro ⟨e,he,rfl⟩;simp only [List.mem_cons,List.not_mem_nil,or_false] at he;have:=HLO.out;rcases he with rfl|rfl <;> (dsimp only at hg;omega)))
  simp only [lay,Sy.at,BF,Yr,Yv,Yp,Yq,Yn,Y0,Yw,Act.put,sA,sZ,sS,Nat.reduceAdd]
  clear hH HO EU
  generalize q5 10=g14 at gu ⊢
  generalize u5=wc at gu Sv ⊢
  (try simp only [Exit.then])
  go_upto_region 8 with fail
  (try simp only [World.size_alloc,Act.put,sA,sZ,sS])
  refine wp_region_held_drew (S:=fun u=>Below wc.heap.size wc u) (by kernel_rfl) ((Below.refl _ wc).drew) (fun hHeld=>?_)
  refine wpAnyH_take (i:=0) (oi:=(⟨some 45,_,_,_,_,none⟩:Oper)) (v := .pointer (some ⟨w.heap.size,64,none⟩)) rfl (by kernel_rfl) (by kernel_rfl) (by kernel_rfl) (fun _ _ _ h=>h) (Or.inl ⟨by rfl,?hy101⟩) (by assumption) ?DV
  case hy101=>(intro u dW;(try dsimp only at dW);go_simp;try (with_reducible rfl))
  (try simp only [Act.put,sA,sZ,sS])
  refine' wpAnyH_take (i:=1) (oi:=(⟨some 46,_,_,_,_,none⟩:Oper)) (v:=_) rfl (by kernel_rfl) (by kernel_rfl) (by kernel_rfl) (fun _ _ _ h=>h) (yieldsIf_load_mid (by rfl) _ _ rfl _ _ rfl (k2.map (Value.int .u8)) _ ?hS102 Tryd.underlying23 rfl (by rw [List.length_map];exact Sl.bU HL2.out)) (by assumption) ?rest102
  case hS102=>(intro u dW;(try dsimp only at dW);exact aM (Below.blk dW (gu.out.get 0 rfl) (gu.out.lt 0 rfl)) 64 _ (by rw [List.length_map];exact EZ.out))
  (try simp only [Act.put,sA,sZ,sS])
  refine wpAnyH_take (i:=3) (oi:=(⟨some 48,_,_,_,_,none⟩:Oper)) (v := .slice (some ⟨g11,0,none⟩) 32 32) rfl (by kernel_rfl) (by kernel_rfl) (by kernel_rfl) (fun _ _ _ h=>h) (Or.inl ⟨by rfl,?VK⟩) (by assumption) ?rest103
  case VK=>(intro u dW;(try dsimp only at dW);go_simp;try (with_reducible rfl))
  (try simp only [Act.put,sA,sZ,sS])
  refine' wpAnyH_take (i:=5) (oi:=(⟨some 50,_,_,_,_,none⟩:Oper)) (v:=_) rfl (by kernel_rfl) (by kernel_rfl) (by kernel_rfl) (fun _ _ _ h=>h) (yieldsIf_load_mid (by rfl) _ _ rfl _ _ rfl (K.map (Value.int .u8)) _ ?hS104 Tryd.underlying23 rfl (by rw [List.length_map];exact Sl.bU l9.out)) (by assumption) ?rest104
  case hS104=>(intro u dW;(try dsimp only at dW);exact aM (Below.blk dW (gu.out.get 1 rfl) (gu.out.lt 1 rfl)) 0 _ (by rw [List.length_map];exact au _ _))
  (try simp only [Act.put,sA,sZ,sS])
  refine wpAnyH_ready (rs:=[2]) (by kernel_rfl) (by simp) ?_
  refine AllReadyH.cons (o:=(⟨some 47,_,_,_,_,none⟩:Oper)) rfl (fun K hK=>?_) AllReadyH.nil
  have HD5:=Lib.hid (show Below wc.heap.size wc wc.drew from (Below.refl _ wc).drew)
  go_simp
  go_at_call 36
  refine (HLP.out _ (gu.out.below.trans (HD5.out.mono gu.out.below.size))).mono ?_
  rintro e w6 ⟨rfl,hb6⟩
  have HD6:Hid (Below wc.heap.size wc w6):=Lib.hid (HD5.out.trans hb6)
  clear hb6
  (try dsimp only)
  refine hK.out _ _ (HD6.out) (fun hHeld=>?_)
  clear hK K
  (try simp only [Act.put,sA,sZ,sS])
  refine wpAnyH_ready (rs:=[4]) (by kernel_rfl) (by simp) ?_
  refine AllReadyH.cons (o:=(⟨some 49,_,_,_,_,none⟩:Oper)) rfl (fun K hK=>?_) AllReadyH.nil
  go_simp
  go_at_call 14
  refine (HSH.out _ _ (gu.out.below.trans (HD6.out.mono gu.out.below.size)) (bO (Below.blk HD6.out (gu.out.get 1 rfl) (gu.out.lt 1 rfl)) 32 l9.out)).mono ?_
  rintro e w7 ⟨rfl,dV⟩
  have HD7:Hid (Below wc.heap.size wc w7):=Lib.hid (HD6.out.trans (dV.mono HD6.out.size))
  clear dV
  (try dsimp only)
  refine hK.out _ _ (HD7.out) (fun hHeld=>?_)
  clear hK K
  (try simp only [Act.put,sA,sZ,sS])
  refine wpAnyH_ready (rs:=[6]) (by kernel_rfl) (by simp) ?_
  refine AllReadyH.cons (o:=(⟨some 51,_,_,_,_,none⟩:Oper)) rfl (fun K hK=>?_) AllReadyH.nil
  go_simp
  go_at_call 35
  refine (HWR.out _ (gu.out.below.trans (HD7.out.mono gu.out.below.size))).mono ?_
  rintro e w8 ⟨⟨sw,cw,rfl,hsw,hcw⟩,jH⟩
  have HD8:Hid (Below wc.heap.size wc w8):=Lib.hid (HD7.out.trans (jH.mono HD7.out.size))
  have Dj:=Lib.hid hsw
  have HCW:=Lib.hid hcw
  clear jH hsw hcw
  (try dsimp only)
  refine hK.out _ _ (HD8.out) (fun hHeld=>?_)
  clear hK K
  (try simp only [Act.put,sA,sZ,sS])
  refine wpAnyH_take (i:=7) (oi:=(⟨some 44,_,_,_,_,none⟩:Oper)) (v := .tuple #[.slice sw 80 cw, .int .i64 0]) rfl (by kernel_rfl) (by kernel_rfl) (by kernel_rfl) (fun _ _ _ h=>h) (Or.inl ⟨by rfl,?hy105⟩) (by assumption) ?rest105
  case hy105=>(intro u dW;(try dsimp only at dW);go_simp;try (with_reducible rfl))
  (try simp only [Act.put,sA,sZ,sS])
  refine wpAnyH_take (i:=8) (oi:=(⟨some 52,_,_,_,_,none⟩:Oper)) (v := .slice sw 80 cw) rfl (by kernel_rfl) (by kernel_rfl) (by kernel_rfl) (fun _ _ _ h=>h) (Or.inl ⟨by rfl,?hy106⟩) (by assumption) ?rest106
  case hy106=>(intro u dW;(try dsimp only at dW);go_simp;try (with_reducible rfl))
  (try simp only [Act.put,sA,sZ,sS])
  refine wpAnyH_take (i:=10) (oi:=(⟨some 15,_,_,_,_,none⟩:Oper)) (v := .slice sw 80 cw) rfl (by kernel_rfl) (by kernel_rfl) (by kernel_rfl) (fun _ _ _ h=>h) (Or.inl ⟨by rfl,?hy107⟩) (by assumption) ?rest107
  case hy107=>(intro u dW;(try dsimp only at dW);go_simp;try (with_reducible rfl))
  (try simp only [Act.put,sA,sZ,sS])
  refine wpAnyH_take (i:=9) (oi:=(⟨some 53,_,_,_,_,none⟩:Oper)) (v := .int .i64 0) rfl (by kernel_rfl) (by kernel_rfl) (by kernel_rfl) (fun _ _ _ h=>h) (Or.inl ⟨by rfl,?hy108⟩) (by assumption) ?rest108
  case hy108=>(intro u dW;(try dsimp only at dW);go_simp;try (with_reducible rfl))
  (try simp only [Act.put,sA,sZ,sS])
  refine wpAnyH_take (i:=11) (oi:=(⟨some 13,_,_,_,_,none⟩:Oper)) (v := .int .i64 0) rfl (by kernel_rfl) (by kernel_rfl) (by kernel_rfl) (fun _ _ _ h=>h) (Or.inl ⟨by rfl,?VJ⟩) (by assumption) ?rest109
  case VJ=>(intro u dW;(try dsimp only at dW);go_simp;try (with_reducible rfl))
  (try simp only [Act.put,sA,sZ,sS])
  refine wpAnyH_done (by kernel_rfl) ?_ _
  (try simp only [Exit.then])
  clear hHeld
  have fM:=Lib.hid (gu.out.kept HD8.out)
  have HO8:=Lib.hid (Sv.out.below HD8.out)
  clear gu Sv HD6 HD7 HD8
  go_upto_region 11 with fail
  (try simp only [World.size_alloc,Act.put,sA,sZ,sS])
  obtain ⟨sl,cl,rfl, -, hsl, -⟩:=HO8.out.form
  have HSL:=Lib.hid hsl
  clear hsl
  refine wp_region_held_drew (S:=fun u=>Below w8.heap.size w8 u) (by kernel_rfl) ((Below.refl _ w8).drew) (fun hHeld=>?_)
  refine wpAnyH_take (i:=0) (oi:=(⟨some 58,_,_,_,_,none⟩:Oper)) (v := .pointer (some ⟨w.heap.size,32,none⟩)) rfl (by kernel_rfl) (by kernel_rfl) (by kernel_rfl) (fun _ _ _ h=>h) (Or.inl ⟨by rfl,?VI⟩) (by assumption) ?rest110
  case VI=>(intro u dW;(try dsimp only at dW);go_simp;try (with_reducible rfl))
  (try simp only [Act.put,sA,sZ,sS])
  refine' wpAnyH_take (i:=1) (oi:=(⟨some 59,_,_,_,_,none⟩:Oper)) (v:=_) rfl (by kernel_rfl) (by kernel_rfl) (by kernel_rfl) (fun _ _ _ h=>h) (yieldsIf_load_mid (by rfl) _ _ rfl _ _ rfl (k1.map (Value.int .u8)) _ ?hS111 Tryd.underlying23 rfl (by rw [List.length_map];exact Sl.bU oH.out)) (by assumption) ?rest111
  case hS111=>(intro u dW;(try dsimp only at dW);exact aM (Below.blk dW (fM.out.get 0 rfl) (fM.out.lt 0 rfl)) 32 _ (by rw [List.length_map];exact HP1.out))
  (try simp only [Act.put,sA,sZ,sS])
  refine wpAnyH_take (i:=2) (oi:=(⟨some 60,_,_,_,_,none⟩:Oper)) (v := .int .i64 v) rfl (by kernel_rfl) (by kernel_rfl) (by kernel_rfl) (fun _ _ _ h=>h) (Or.inl ⟨by rfl,?hy112⟩) (by assumption) ?rest112
  case hy112=>(intro u dW;(try dsimp only at dW);go_simp;try (with_reducible rfl))
  (try simp only [Act.put,sA,sZ,sS])
  refine wpAnyH_take (i:=3) (oi:=(⟨some 61,_,_,_,_,none⟩:Oper)) (v := .slice sl L.length cl) rfl (by kernel_rfl) (by kernel_rfl) (by kernel_rfl) (fun _ _ _ h=>h) (Or.inl ⟨by rfl,?hy113⟩) (by assumption) ?rest113
  case hy113=>(intro u dW;(try dsimp only at dW);go_simp;try (with_reducible rfl))
  (try simp only [Act.put,sA,sZ,sS])
  refine wpAnyH_take (i:=4) (oi:=(⟨some 62,_,_,_,_,none⟩:Oper)) (v := .int .i64 L.length) rfl (by kernel_rfl) (by kernel_rfl) (by kernel_rfl) (fun _ _ _ h=>h) (Or.inl ⟨by rfl,?hy114⟩) (by assumption) ?rest114
  case hy114=>(intro u dW;(try dsimp only at dW);go_simp;try (with_reducible rfl))
  (try simp only [Act.put,sA,sZ,sS])
  refine wpAnyH_take (i:=5) (oi:=(⟨some 63,_,_,_,_,none⟩:Oper)) (v := .slice sl L.length cl) rfl (by kernel_rfl) (by kernel_rfl) (by kernel_rfl) (fun _ _ _ h=>h) (Or.inl ⟨by rfl,?hy115⟩) (by assumption) ?Ov
  case hy115=>(intro u dW;(try dsimp only at dW);go_simp;try (with_reducible rfl))
  (try simp only [Act.put,sA,sZ,sS])
  refine wpAnyH_take (i:=7) (oi:=(⟨some 65,_,_,_,_,none⟩:Oper)) (v := .slice sw 80 cw) rfl (by kernel_rfl) (by kernel_rfl) (by kernel_rfl) (fun _ _ _ h=>h) (Or.inl ⟨by rfl,?VH⟩) (by assumption) ?rest116
  case VH=>(intro u dW;(try dsimp only at dW);go_simp;try (with_reducible rfl))
  (try simp only [Act.put,sA,sZ,sS])
  refine' wpAnyH_take (i:=8) (oi:=(⟨some 66,_,_,_,_,none⟩:Oper)) (v:=_) rfl (by kernel_rfl) (by kernel_rfl) (by kernel_rfl) (fun _ _ _ h=>h) (yieldsIf_load_mid (by rfl) _ _ rfl _ _ rfl (CC.toList) _ ?hS117 Tryd.underlying28 rfl (by simpa using HCI.out)) (by assumption) ?rest117
  case hS117=>(intro u dW;(try dsimp only at dW);exact aM (Below.blk dW (fM.out.get 2 rfl) (fM.out.lt 2 rfl)) 0 _ (by rw [List.drop_zero];exact List.take_of_length_le (by simp)))
  (try simp only [Act.put,sA,sZ,sS])
  have HDd:Hid (Below w8.heap.size w8 w8.drew):=Lib.hid (Below.refl _ w8).drew
  refine wpAnyH_ready (rs:=[6,14]) (by kernel_rfl) (by simp) ?_
  refine AllReadyH.cons (o:=(⟨some 64,_,_,_,_,none⟩:Oper)) rfl (fun K hK=>?r140_6) (AllReadyH.cons (o:=(⟨some 16,_,_,_,_,none⟩:Oper)) rfl (fun K hK=>?r140_14) AllReadyH.nil)
  case r140_6 =>
   go_simp
   go_at_call 38
   refine (HRT.out _ _ _ (fM.out.below.trans (HDd.out.mono fM.out.below.size)) (HSL.out.below HDd.out)).mono ?_
   rintro e wa ⟨rfl,hb⟩
   have su:Hid (Below w8.heap.size w8 wa):=Lib.hid (HDd.out.trans (hb.mono HDd.out.size))
   clear hb
   (try dsimp only)
   refine hK.out _ _ (su.out) (fun hHeld=>?_)
   clear hK K
   (try simp only [Act.put,sA,sZ,sS])
   refine wpAnyH_take (i:=9) (oi:=(⟨some 67,_,_,_,_,none⟩:Oper)) (v := .agg (M0 sw cw)) rfl (by kernel_rfl) (by kernel_rfl) (by kernel_rfl) (fun _ _ _ h=>h) (Or.inl ⟨by rfl,?hy138⟩) (by assumption) ?rest138
   case hy138=>(intro u dW;(try dsimp only at dW);exact UZ (Eq.trans (congrArg (fun A=>(Instr.build 30 A).run Tryd.prog u) (by first|rfl|kernel_rfl)) (HBM.out u sw cw)))
   (try simp only [Act.put,sA,sZ,sS])
   refine wpAnyH_ready (rs:=[10,14]) (by kernel_rfl) (by simp) ?_
   refine AllReadyH.cons (o:=(⟨some 68,_,_,_,_,none⟩:Oper)) rfl (fun K hK=>?r139_10) (AllReadyH.cons (o:=(⟨some 16,_,_,_,_,none⟩:Oper)) rfl (fun K hK=>?r139_14) AllReadyH.nil)
   case r139_10 =>
    go_simp
    go_at_call 37
    refine (Z6.out _ _ _ (fM.out.below.trans (su.out.mono fM.out.below.size)) (Dj.out.below su.out)).mono ?_
    rintro e Tn ⟨s2,c2,rfl,hx,hb⟩
    have jS:Hid (Below w8.heap.size w8 Tn):=Lib.hid (su.out.trans (hb.mono su.out.size))
    have HX:=Lib.hid hx
    have iG:=Lib.hid hx.lt
    clear hb hx
    (try dsimp only)
    refine hK.out _ _ (jS.out) (fun hHeld=>?_)
    clear hK K
    (try simp only [Act.put,sA,sZ,sS])
    refine wpAnyH_take (i:=11) (oi:=(⟨some 57,_,_,_,_,none⟩:Oper)) (v := .tuple #[.agg (MS s2 c2), .int .i64 0]) rfl (by kernel_rfl) (by kernel_rfl) (by kernel_rfl) (fun _ _ _ h=>h) (Or.inl ⟨by rfl,?Vw⟩) (by assumption) ?rest132
    case Vw=>(intro u dW;(try dsimp only at dW);go_simp;try (with_reducible rfl))
    (try simp only [Act.put,sA,sZ,sS])
    refine wpAnyH_take (i:=12) (oi:=(⟨some 69,_,_,_,_,none⟩:Oper)) (v := .agg (MS s2 c2)) rfl (by kernel_rfl) (by kernel_rfl) (by kernel_rfl) (fun _ _ _ h=>h) (Or.inl ⟨by rfl,?hy133⟩) (by assumption) ?rest133
    case hy133=>(intro u dW;(try dsimp only at dW);go_simp;try (with_reducible rfl))
    (try simp only [Act.put,sA,sZ,sS])
    refine wpAnyH_take (i:=13) (oi:=(⟨some 70,_,_,_,_,none⟩:Oper)) (v := .int .i64 0) rfl (by kernel_rfl) (by kernel_rfl) (by kernel_rfl) (fun _ _ _ h=>h) (Or.inl ⟨by rfl,?hy134⟩) (by assumption) ?rest134
    case hy134=>(intro u dW;(try dsimp only at dW);go_simp;try (with_reducible rfl))
    (try simp only [Act.put,sA,sZ,sS])
    refine wpAnyH_ready (rs:=[14]) (by kernel_rfl) (by simp) ?_
    refine AllReadyH.cons (o:=(⟨some 16,_,_,_,_,none⟩:Oper)) rfl (fun K hK=>?r137_14) AllReadyH.nil
    case r137_14 =>
     refine bg rfl 30 rfl _ (HZM.out _) ?_
     have HG:Hid ((Tn.alloc (.cells mz 30)).heap[Tn.heap.size]? = some (.cells mz 30 (0,0))):=Lib.hid (aL _ _)
     have SY:Hid (w8.heap.size≤Tn.heap.size):=Lib.hid jS.out.size
     have om:Hid (Below w8.heap.size w8 (Tn.alloc (.cells mz 30))):=Lib.hid (jS.out.alloc jS.out.size _)
     have HX:=Lib.hid (HX.out.alloc (.cells mz 30))
     have HXN:Hid (∀ k,(Value.slice s2 80 c2).ownBlock=some k→k≠Tn.heap.size):=Lib.hid (fun k e=>by have:=iG.out k e;omega)
     generalize Tn.heap.size=g16 at HG SY HXN ⊢
     generalize Tn.alloc (.cells mz 30)=wc2 at HG om HX ⊢
     refine hK.out _ _ (om.out) (fun hHeld=>?_)
     clear hK K
     (try simp only [Act.put,sA,sZ,sS])
     refine wpAnyH_ready (rs:=[15]) (by kernel_rfl) (by simp) ?_
     refine AllReadyH.cons (o:=(⟨none,_,_,_,_,none⟩:Oper)) rfl (fun K hK=>?r136_15) AllReadyH.nil
     case r136_15 =>
      refine aD rfl 30 (.tmp 16) (.tmp 69) rfl g16 _ _ 30 HG.out rfl rfl (by rw [(Bq.out s2 c2).1,HMZ.out]) (MG.out s2 c2) (Bq.out s2 c2).2 ?_
      intro wE hbE zG hzE
      have HGE:=Lib.hid hbE
      have HXE:=Lib.hid (HX.out.kept zG (fun k e=>HXN.out k e))
      have Av:Hid (Below w8.heap.size w8 wE):=Lib.hid (om.out.trans ⟨zG.os,zG.tape,zG.output,zG.size,fun k hk=>zG.block k (Nat.lt_of_lt_of_le hk om.out.size) (fun e=>by have e:k=g16:=e;have:=SY.out;omega)⟩)
      clear hbE zG hzE
      refine hK.out _ _ (Av.out) (fun hHeld=>?_)
      clear hK K
      (try simp only [Act.put,sA,sZ,sS])
      refine wpAnyH_take (i:=16) (oi:=(⟨some 13,_,_,_,_,none⟩:Oper)) (v := .int .i64 0) rfl (by kernel_rfl) (by kernel_rfl) (by kernel_rfl) (fun _ _ _ h=>h) (Or.inl ⟨by rfl,?hy135⟩) (by assumption) ?rest135
      case hy135=>(intro u dW;(try dsimp only at dW);go_simp;try (with_reducible rfl))
      (try simp only [Act.put,sA,sZ,sS])
      refine wpAnyH_done (by kernel_rfl) ?_ _
      (try simp only [Exit.then])
      clear hHeld
      have BO:=Lib.hid (fM.out.below.trans (Av.out.mono fM.out.below.size))
      have Z9:=Lib.hid (HO8.out.below Av.out)
      have hsx:Src wE s2 80 ws:=by
       obtain ⟨sa,c,e, -, -, h, -⟩:=HXE.out.form
       injection e with e1 e2 e3
       rw [e1,e2];exact h
      have HSX:=Lib.hid hsx
      clear hsx
      go_wp2_with (first|((with_reducible refine aS 75 ?_);refine wpList_load_row rfl 30 _ rfl g16 rfl 30 _ (0,0) _ HGE.out Tryd.underlying30 rfl (MG.out s2 c2) ?_)|((with_reducible show Calls _ 6 _ _ _);go_at_call 6; refine (HPM.out _ _ _ BO.out HSX.out).mono ?_;rintro e wF ⟨vv,rfl,ho,hb⟩;have HPF:=Lib.hid ho;have qK:=Lib.hid hb;clear ho hb))
      all_goals (try simp only [Exit.then])
      go_ret3
      exact ⟨_,_,rfl,HPF.out.mono BO.out.size,(Z9.out.below qK.out).mono (Nat.le_of_lt HLO.out.1),BO.out.trans (qK.out.mono BO.out.size)⟩
   case r139_14 =>
    refine bg rfl 30 rfl _ (HZM.out _) ?_
    have HG:Hid ((wa.alloc (.cells mz 30)).heap[wa.heap.size]? = some (.cells mz 30 (0,0))):=Lib.hid (aL _ _)
    have SY:Hid (w8.heap.size≤wa.heap.size):=Lib.hid su.out.size
    have jS:Hid (Below w8.heap.size w8 (wa.alloc (.cells mz 30))):=Lib.hid (su.out.alloc su.out.size _)
    generalize wa.heap.size=g16 at HG SY ⊢
    generalize wa.alloc (.cells mz 30)=Tn at HG jS ⊢
    refine hK.out _ _ (jS.out) (fun hHeld=>?_)
    clear hK K
    (try simp only [Act.put,sA,sZ,sS])
    refine wpAnyH_ready (rs:=[10]) (by kernel_rfl) (by simp) ?_
    refine AllReadyH.cons (o:=(⟨some 68,_,_,_,_,none⟩:Oper)) rfl (fun K hK=>?r131_10) AllReadyH.nil
    case r131_10 =>
     go_simp
     go_at_call 37
     refine (Z6.out _ _ _ (fM.out.below.trans (jS.out.mono fM.out.below.size)) (Dj.out.below jS.out)).mono ?_
     rintro e wc2 ⟨s2,c2,rfl,hx,hb⟩
     have om:Hid (Below w8.heap.size w8 wc2):=Lib.hid (jS.out.trans (hb.mono jS.out.size))
     have HX:=Lib.hid hx
     have iG:=Lib.hid hx.lt
     have HXN:Hid (∀ k,(Value.slice s2 80 c2).ownBlock=some k→k≠g16):=Lib.hid (fun k e=>by have:=iG.out k e;have:=aR HG.out;omega)
     have HG:=Lib.hid (Below.blk hb HG.out (aR HG.out))
     clear hb hx
     (try dsimp only)
     refine hK.out _ _ (om.out) (fun hHeld=>?_)
     clear hK K
     (try simp only [Act.put,sA,sZ,sS])
     refine wpAnyH_take (i:=11) (oi:=(⟨some 57,_,_,_,_,none⟩:Oper)) (v := .tuple #[.agg (MS s2 c2), .int .i64 0]) rfl (by kernel_rfl) (by kernel_rfl) (by kernel_rfl) (fun _ _ _ h=>h) (Or.inl ⟨by rfl,?Vz⟩) (by assumption) ?Oo
     case Vz=>(intro u dW;(try dsimp only at dW);go_simp;try (with_reducible rfl))
     (try simp only [Act.put,sA,sZ,sS])
     refine wpAnyH_take (i:=12) (oi:=(⟨some 69,_,_,_,_,none⟩:Oper)) (v := .agg (MS s2 c2)) rfl (by kernel_rfl) (by kernel_rfl) (by kernel_rfl) (fun _ _ _ h=>h) (Or.inl ⟨by rfl,?Vy⟩) (by assumption) ?Om
     case Vy=>(intro u dW;(try dsimp only at dW);go_simp;try (with_reducible rfl))
     (try simp only [Act.put,sA,sZ,sS])
     refine wpAnyH_take (i:=13) (oi:=(⟨some 70,_,_,_,_,none⟩:Oper)) (v := .int .i64 0) rfl (by kernel_rfl) (by kernel_rfl) (by kernel_rfl) (fun _ _ _ h=>h) (Or.inl ⟨by rfl,?hy128⟩) (by assumption) ?Ol
     case hy128=>(intro u dW;(try dsimp only at dW);go_simp;try (with_reducible rfl))
     (try simp only [Act.put,sA,sZ,sS])
     refine wpAnyH_ready (rs:=[15]) (by kernel_rfl) (by simp) ?_
     refine AllReadyH.cons (o:=(⟨none,_,_,_,_,none⟩:Oper)) rfl (fun K hK=>?r130_15) AllReadyH.nil
     case r130_15 =>
      refine aD rfl 30 (.tmp 16) (.tmp 69) rfl g16 _ _ 30 HG.out rfl rfl (by rw [(Bq.out s2 c2).1,HMZ.out]) (MG.out s2 c2) (Bq.out s2 c2).2 ?_
      intro wE hbE zG hzE
      have HGE:=Lib.hid hbE
      have HXE:=Lib.hid (HX.out.kept zG (fun k e=>HXN.out k e))
      have Av:Hid (Below w8.heap.size w8 wE):=Lib.hid (om.out.trans ⟨zG.os,zG.tape,zG.output,zG.size,fun k hk=>zG.block k (Nat.lt_of_lt_of_le hk om.out.size) (fun e=>by have e:k=g16:=e;have:=SY.out;omega)⟩)
      clear hbE zG hzE
      refine hK.out _ _ (Av.out) (fun hHeld=>?_)
      clear hK K
      (try simp only [Act.put,sA,sZ,sS])
      refine wpAnyH_take (i:=16) (oi:=(⟨some 13,_,_,_,_,none⟩:Oper)) (v := .int .i64 0) rfl (by kernel_rfl) (by kernel_rfl) (by kernel_rfl) (fun _ _ _ h=>h) (Or.inl ⟨by rfl,?Vx⟩) (by assumption) ?rest129
      case Vx=>(intro u dW;(try dsimp only at dW);go_simp;try (with_reducible rfl))
      (try simp only [Act.put,sA,sZ,sS])
      refine wpAnyH_done (by kernel_rfl) ?_ _
      (try simp only [Exit.then])
      clear hHeld
      have BO:=Lib.hid (fM.out.below.trans (Av.out.mono fM.out.below.size))
      have Z9:=Lib.hid (HO8.out.below Av.out)
      have hsx:Src wE s2 80 ws:=by
       obtain ⟨sa,c,e, -, -, h, -⟩:=HXE.out.form
       injection e with e1 e2 e3
       rw [e1,e2];exact h
      have HSX:=Lib.hid hsx
      clear hsx
      go_wp2_with (first|((with_reducible refine aS 75 ?_);refine wpList_load_row rfl 30 _ rfl g16 rfl 30 _ (0,0) _ HGE.out Tryd.underlying30 rfl (MG.out s2 c2) ?_)|((with_reducible show Calls _ 6 _ _ _);go_at_call 6; refine (HPM.out _ _ _ BO.out HSX.out).mono ?_;rintro e wF ⟨vv,rfl,ho,hb⟩;have HPF:=Lib.hid ho;have qK:=Lib.hid hb;clear ho hb))
      all_goals (try simp only [Exit.then])
      go_ret3
      exact ⟨_,_,rfl,HPF.out.mono BO.out.size,(Z9.out.below qK.out).mono (Nat.le_of_lt HLO.out.1),BO.out.trans (qK.out.mono BO.out.size)⟩
  case r140_14 =>
   refine bg rfl 30 rfl _ (HZM.out _) ?_
   have HG:Hid ((w8.drew.alloc (.cells mz 30)).heap[w8.drew.heap.size]? = some (.cells mz 30 (0,0))):=Lib.hid (aL _ _)
   have SY:Hid (w8.heap.size≤w8.drew.heap.size):=Lib.hid HDd.out.size
   have su:Hid (Below w8.heap.size w8 (w8.drew.alloc (.cells mz 30))):=Lib.hid (HDd.out.alloc HDd.out.size _)
   generalize w8.drew.heap.size=g16 at HG SY ⊢
   generalize w8.drew.alloc (.cells mz 30)=wa at HG su ⊢
   refine hK.out _ _ (su.out) (fun hHeld=>?_)
   clear hK K
   (try simp only [Act.put,sA,sZ,sS])
   refine wpAnyH_ready (rs:=[6]) (by kernel_rfl) (by simp) ?_
   refine AllReadyH.cons (o:=(⟨some 64,_,_,_,_,none⟩:Oper)) rfl (fun K hK=>?r125_6) AllReadyH.nil
   case r125_6 =>
    go_simp
    go_at_call 38
    refine (HRT.out _ _ _ (fM.out.below.trans (su.out.mono fM.out.below.size)) (HSL.out.below su.out)).mono ?_
    rintro e Tn ⟨rfl,hb⟩
    have jS:Hid (Below w8.heap.size w8 Tn):=Lib.hid (su.out.trans (hb.mono su.out.size))
    have HG:=Lib.hid (Below.blk hb HG.out (aR HG.out))
    clear hb
    (try dsimp only)
    refine hK.out _ _ (jS.out) (fun hHeld=>?_)
    clear hK K
    (try simp only [Act.put,sA,sZ,sS])
    refine wpAnyH_take (i:=9) (oi:=(⟨some 67,_,_,_,_,none⟩:Oper)) (v := .agg (M0 sw cw)) rfl (by kernel_rfl) (by kernel_rfl) (by kernel_rfl) (fun _ _ _ h=>h) (Or.inl ⟨by rfl,?VG⟩) (by assumption) ?Ou
    case VG=>(intro u dW;(try dsimp only at dW);exact UZ (Eq.trans (congrArg (fun A=>(Instr.build 30 A).run Tryd.prog u) (by first|rfl|kernel_rfl)) (HBM.out u sw cw)))
    (try simp only [Act.put,sA,sZ,sS])
    refine wpAnyH_ready (rs:=[10]) (by kernel_rfl) (by simp) ?_
    refine AllReadyH.cons (o:=(⟨some 68,_,_,_,_,none⟩:Oper)) rfl (fun K hK=>?r124_10) AllReadyH.nil
    case r124_10 =>
     go_simp
     go_at_call 37
     refine (Z6.out _ _ _ (fM.out.below.trans (jS.out.mono fM.out.below.size)) (Dj.out.below jS.out)).mono ?_
     rintro e wc2 ⟨s2,c2,rfl,hx,hb⟩
     have om:Hid (Below w8.heap.size w8 wc2):=Lib.hid (jS.out.trans (hb.mono jS.out.size))
     have HX:=Lib.hid hx
     have iG:=Lib.hid hx.lt
     have HXN:Hid (∀ k,(Value.slice s2 80 c2).ownBlock=some k→k≠g16):=Lib.hid (fun k e=>by have:=iG.out k e;have:=aR HG.out;omega)
     have HG:=Lib.hid (Below.blk hb HG.out (aR HG.out))
     clear hb hx
     (try dsimp only)
     refine hK.out _ _ (om.out) (fun hHeld=>?_)
     clear hK K
     (try simp only [Act.put,sA,sZ,sS])
     refine wpAnyH_take (i:=11) (oi:=(⟨some 57,_,_,_,_,none⟩:Oper)) (v := .tuple #[.agg (MS s2 c2), .int .i64 0]) rfl (by kernel_rfl) (by kernel_rfl) (by kernel_rfl) (fun _ _ _ h=>h) (Or.inl ⟨by rfl,?VF⟩) (by assumption) ?Ot
     case VF=>(intro u dW;(try dsimp only at dW);go_simp;try (with_reducible rfl))
     (try simp only [Act.put,sA,sZ,sS])
     refine wpAnyH_take (i:=12) (oi:=(⟨some 69,_,_,_,_,none⟩:Oper)) (v := .agg (MS s2 c2)) rfl (by kernel_rfl) (by kernel_rfl) (by kernel_rfl) (fun _ _ _ h=>h) (Or.inl ⟨by rfl,?VE⟩) (by assumption) ?Oq
     case VE=>(intro u dW;(try dsimp only at dW);go_simp;try (with_reducible rfl))
     (try simp only [Act.put,sA,sZ,sS])
     refine wpAnyH_take (i:=13) (oi:=(⟨some 70,_,_,_,_,none⟩:Oper)) (v := .int .i64 0) rfl (by kernel_rfl) (by kernel_rfl) (by kernel_rfl) (fun _ _ _ h=>h) (Or.inl ⟨by rfl,?VD⟩) (by assumption) ?rest121
     case VD=>(intro u dW;(try dsimp only at dW);go_simp;try (with_reducible rfl))
     (try simp only [Act.put,sA,sZ,sS])
     refine wpAnyH_ready (rs:=[15]) (by kernel_rfl) (by simp) ?_
     refine AllReadyH.cons (o:=(⟨none,_,_,_,_,none⟩:Oper)) rfl (fun K hK=>?r123_15) AllReadyH.nil
     case r123_15 =>
      refine aD rfl 30 (.tmp 16) (.tmp 69) rfl g16 _ _ 30 HG.out rfl rfl (by rw [(Bq.out s2 c2).1,HMZ.out]) (MG.out s2 c2) (Bq.out s2 c2).2 ?_
      intro wE hbE zG hzE
      have HGE:=Lib.hid hbE
      have HXE:=Lib.hid (HX.out.kept zG (fun k e=>HXN.out k e))
      have Av:Hid (Below w8.heap.size w8 wE):=Lib.hid (om.out.trans ⟨zG.os,zG.tape,zG.output,zG.size,fun k hk=>zG.block k (Nat.lt_of_lt_of_le hk om.out.size) (fun e=>by have e:k=g16:=e;have:=SY.out;omega)⟩)
      clear hbE zG hzE
      refine hK.out _ _ (Av.out) (fun hHeld=>?_)
      clear hK K
      (try simp only [Act.put,sA,sZ,sS])
      refine wpAnyH_take (i:=16) (oi:=(⟨some 13,_,_,_,_,none⟩:Oper)) (v := .int .i64 0) rfl (by kernel_rfl) (by kernel_rfl) (by kernel_rfl) (fun _ _ _ h=>h) (Or.inl ⟨by rfl,?VA⟩) (by assumption) ?rest122
      case VA=>(intro u dW;(try dsimp only at dW);go_simp;try (with_reducible rfl))
      (try simp only [Act.put,sA,sZ,sS])
      refine wpAnyH_done (by kernel_rfl) ?_ _
      (try simp only [Exit.then])
      clear hHeld
      have BO:=Lib.hid (fM.out.below.trans (Av.out.mono fM.out.below.size))
      have Z9:=Lib.hid (HO8.out.below Av.out)
      have hsx:Src wE s2 80 ws:=by
       obtain ⟨sa,c,e, -, -, h, -⟩:=HXE.out.form
       injection e with e1 e2 e3
       rw [e1,e2];exact h
      have HSX:=Lib.hid hsx
      clear hsx
      go_wp2_with (first|((with_reducible refine aS 75 ?_);refine wpList_load_row rfl 30 _ rfl g16 rfl 30 _ (0,0) _ HGE.out Tryd.underlying30 rfl (MG.out s2 c2) ?_)|((with_reducible show Calls _ 6 _ _ _);go_at_call 6; refine (HPM.out _ _ _ BO.out HSX.out).mono ?_;rintro e wF ⟨vv,rfl,ho,hb⟩;have HPF:=Lib.hid ho;have qK:=Lib.hid hb;clear ho hb))
      all_goals (try simp only [Exit.then])
      go_ret3
      exact ⟨_,_,rfl,HPF.out.mono BO.out.size,(Z9.out.below qK.out).mono (Nat.le_of_lt HLO.out.1),BO.out.trans (qK.out.mono BO.out.size)⟩
end Go.Proofs.YthdgbgleklkaiaaDoor.Ms
