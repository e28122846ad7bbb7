/- The document's nought, base, many: The document's Canon, written: The document's less, Reduce. Condition: as each theorem says. -/

import Derived.Test.YthdgbgleklkaiaaDoorQa03
import Derived.Test.YthdgbgleklkaiaaDoorQa20
import Derived.Test.YthdgbgleklkaiaaDoorQa24
set_option linter.unusedSimpArgs false
set_option linter.unusedVariables false
set_option maxRecDepth 100000
set_option maxHeartbeats 16000000
namespace Go.Proofs.YthdgbgleklkaiaaDoor.Rd
open Go.RowKit Lm Fp Cu
theorem JR (w:World):Calls Tryd.prog 69 #[] w fun e w'=>∃ zs,e = .returned (.agg (arr .i64 zs))∧lZ zs nought∧Below w.heap.size w w':=by
 obtain ⟨ze,iH⟩:∃ zs:List Int,zs=List.replicate 16 0:=⟨_,rfl⟩
 have dM:Hid (∀ w,(zeroValue 98).run Tryd.prog w = .ok (.agg (arr .i64 ze)) w):=Lib.hid (by intro w;rw [iH];exact gF w)
 have dB:Hid (ze.length=16):=Lib.hid (by rw [iH];rfl)
 obtain ⟨zp,xS⟩:∃ zs:List Int,zs=List.replicate 64 0:=⟨_,rfl⟩
 have xD:Hid (∀ w,(zeroValue 100).run Tryd.prog w = .ok (.agg (arr .i64 zp)) w):=Lib.hid (by intro w;rw [xS];exact mW w)
 have jq:Hid (zp.length=64):=Lib.hid (by rw [xS];rfl)
 have HEz:Hid (El ze 0):=Lib.hid (by rw [iH];exact ED)
 have BO:Hid (∀ w,(Instr.build 98 #[]).run Tryd.prog w = .ok (.agg (arr .i64 ze)) w):=Lib.hid (by intro w;rw [iH];exact Dc w)
 have bN:=Lib.hid (bM.one w (arr .i64 zp) 100)
 clear iH xS
 go_enter Tryd.func69, Tryd.ntmps69
 go_upto_region 1 with (first|((with_reducible refine aS 0 ?_);refine aj rfl 100 rfl _ (xD.out _) ?_))
 (try simp only [Act.put,sA,sZ])
 generalize (w.alloc (.cells (arr .i64 zp) 100))=wb at bN ⊢
 go_wp2_with (first|((with_reducible refine aS 1 ?_);refine wpList_build (by rfl) 98 _ rfl #[] rfl _ (BO.out _) ?_)|((with_reducible show Calls _ 71 #[_] _ _);go_at_call 71; refine (fO 1 _ (by decide)).mono ?_;rintro e w301 ⟨z301,rfl,h301,hb301⟩;have HZ301:=Lib.hid h301;have HL301:=Lib.hid h301.1;clear h301;have HB301:=Lib.hid (bN.out.kept hb301);clear hb301)|((with_reducible show Calls _ 71 #[_] _ _);go_at_call 71; refine (fO 1 _ (by decide)).mono ?_;rintro e w302 ⟨z302,rfl,h302,hb302⟩;have HZ302:=Lib.hid h302;have HL302:=Lib.hid h302.1;clear h302;have HB302:=Lib.hid (HB301.out.kept hb302);clear hb302)|((with_reducible refine aS 4 ?_);refine wpList_build (by rfl) 98 _ rfl #[] rfl _ (BO.out _) ?_)|((with_reducible refine aS 5 ?_);obtain ⟨v303,OU⟩:∃ x,x=ze ++ z301 ++ z302 ++ ze:=⟨_,rfl⟩;have HR303:Hid (∀ w,(Instr.build 100 #[(0, .agg (arr .i64 ze)),(1, .agg (arr .i64 z301)),(2, .agg (arr .i64 z302)),(3, .agg (arr .i64 ze))]).run Tryd.prog w = .ok (.agg (arr .i64 v303)) w):=Lib.hid (fun w=>by rw [OU];exact pR _ _ _ _ dB.out HL301.out HL302.out dB.out w);have HL303:Hid (v303.length=64):=Lib.hid (by rw [OU];exact yX dB.out HL301.out HL302.out dB.out);have HV303:=Lib.hid OU;clear OU;refine wpList_build (by rfl) 100 _ rfl #[(0, .agg (arr .i64 ze)),(1, .agg (arr .i64 z301)),(2, .agg (arr .i64 z302)),(3, .agg (arr .i64 ze))] rfl _ (HR303.out _) ?_)|((with_reducible refine aT 0 (x:=(Operand.tmp 5)) ?_);refine ah rfl 100 _ _ rfl (w.heap.size) _ _ 100 (HB302.out.get 0 rfl) rfl rfl (ay _ _ HL303.out jq.out) (lD HL303.out) (av _ _) ?_;intro w304 hb304 hk304 hz304;have HB304:=Lib.hid (HB302.out.put 0 rfl hk304 hb304);clear hb304 hk304 hz304))
 (try simp only [Exit.then])
 refine bodyPost_ret (results_cell_row rfl _ _ (w.heap.size) 100 _ (0,0) _ rfl (HB304.out.get 0 rfl) Tryd.underlying100 rfl (lD HL303.out)) rfl ?_
 exact ⟨_,rfl,⟨_,_,_,_,HV303.out,HEz.out,HZ301.out,HZ302.out,HEz.out⟩,HB304.out.below⟩
theorem Af (w:World) (hX:Sg w) (hY:Sd w):Calls Tryd.prog 51 #[] w fun e w'=>∃ zs,e = .returned (.agg (arr .i64 zs))∧lZ zs base∧Below w.heap.size w w':=by
 obtain ⟨zp,xS⟩:∃ zs:List Int,zs=List.replicate 64 0:=⟨_,rfl⟩
 have xD:Hid (∀ w,(zeroValue 100).run Tryd.prog w = .ok (.agg (arr .i64 zp)) w):=Lib.hid (by intro w;rw [xS];exact mW w)
 have jq:Hid (zp.length=64):=Lib.hid (by rw [xS];rfl)
 obtain ⟨xl,hxl⟩:∃ x,x=xL:=⟨_,rfl⟩
 obtain ⟨yl,hyl⟩:∃ x,x=yL:=⟨_,rfl⟩
 have HXe:Hid (El xl bx):=Lib.hid (by rw [hxl];exact xL_el)
 have HXl:=Lib.hid HXe.out.1
 have HYe:Hid (El yl bY):=Lib.hid (by rw [hyl];exact yL_el)
 have HYl:=Lib.hid HYe.out.1
 unfold Sg at hX
 unfold Sd at hY
 rw [← hxl] at hX
 rw [← hyl] at hY
 have bN:=Lib.hid (bM.one w (arr .i64 zp) 100)
 have HTX:=Lib.hid (bA hX bN.out.below)
 have HTY:=Lib.hid (bA hY bN.out.below)
 have HGX:Hid (¬ 1 = w.heap.size):=Lib.hid (by rw [hxl] at hX;exact Nat.ne_of_lt (yS hX))
 have HGY:Hid (¬ 2 = w.heap.size):=Lib.hid (by rw [hyl] at hY;exact Nat.ne_of_lt (yS hY))
 clear xS hX hY hxl hyl
 go_enter Tryd.func51, Tryd.ntmps51
 go_upto_region 1 with (first|((with_reducible refine aS 0 ?_);refine aj rfl 100 rfl _ (xD.out _) ?_))
 (try simp only [Act.put,sA,sZ])
 generalize (w.alloc (.cells (arr .i64 zp) 100))=wb at bN HTX HTY ⊢
 have dU:=Lib.hid ((Kept.refl (fun x=>x=w.heap.size) wb).drew)
 have dX:=Lib.hid (bN.out.drew)
 refine wp_region_held_drew (S:=(fun w'=>Kept (fun x=>x=w.heap.size) wb w')) (by kernel_rfl) (dU.out) (fun hHeld=>?_)
 generalize wb.drew=wd at dU dX hHeld ⊢
 refine' wpAnyH_take (i:=0) (oi:=(⟨some 1,_,_,_,_,none⟩:Oper)) (v:=_) rfl (by kernel_rfl) (by kernel_rfl) (by kernel_rfl) (fun _ _ _ h=>h) (yieldsIf_load_mid (by rfl) _ _ rfl _ _ rfl (xl.map (Value.int .i64)) _ ?hS305 Tryd.underlying98 rfl (by rw [List.length_map];exact bI HXl.out)) (by assumption) ?rest305
 case hS305=>(intro w hSw;(try dsimp only at hSw);exact kW HTX.out (hSw) (by first|exact HGX.out|exact HGY.out))
 (try simp only [Act.put,sA,sZ,sS])
 refine' wpAnyH_take (i:=1) (oi:=(⟨some 2,_,_,_,_,none⟩:Oper)) (v:=_) rfl (by kernel_rfl) (by kernel_rfl) (by kernel_rfl) (fun _ _ _ h=>h) (yieldsIf_load_mid (by rfl) _ _ rfl _ _ rfl (yl.map (Value.int .i64)) _ ?hS306 Tryd.underlying98 rfl (by rw [List.length_map];exact bI HYl.out)) (by assumption) ?rest306
 case hS306=>(intro w hSw;(try dsimp only at hSw);exact kW HTY.out (hSw) (by first|exact HGX.out|exact HGY.out))
 (try simp only [Act.put,sA,sZ,sS])
 refine' wpAnyH_take (i:=3) (oi:=(⟨some 4,_,_,_,_,none⟩:Oper)) (v:=_) rfl (by kernel_rfl) (by kernel_rfl) (by kernel_rfl) (fun _ _ _ h=>h) (yieldsIf_load_mid (by rfl) _ _ rfl _ _ rfl (xl.map (Value.int .i64)) _ ?hS307 Tryd.underlying98 rfl (by rw [List.length_map];exact bI HXl.out)) (by assumption) ?rest307
 case hS307=>(intro w hSw;(try dsimp only at hSw);exact kW HTX.out (hSw) (by first|exact HGX.out|exact HGY.out))
 (try simp only [Act.put,sA,sZ,sS])
 refine' wpAnyH_take (i:=4) (oi:=(⟨some 5,_,_,_,_,none⟩:Oper)) (v:=_) rfl (by kernel_rfl) (by kernel_rfl) (by kernel_rfl) (fun _ _ _ h=>h) (yieldsIf_load_mid (by rfl) _ _ rfl _ _ rfl (yl.map (Value.int .i64)) _ ?hS308 Tryd.underlying98 rfl (by rw [List.length_map];exact bI HYl.out)) (by assumption) ?rest308
 case hS308=>(intro w hSw;(try dsimp only at hSw);exact kW HTY.out (hSw) (by first|exact HGX.out|exact HGY.out))
 (try simp only [Act.put,sA,sZ,sS])
 refine wpAnyH_ready (rs:=[2]) (by kernel_rfl) (by simp) ?_
 refine AllReadyH.cons (o:=(⟨some 3,_,_,_,_,none⟩:Oper)) rfl (fun K hK=>?_) AllReadyH.nil
 go_simp
 go_at_call 71
 refine (fO 1 _ (by decide)).mono ?_
 rintro e w309 ⟨z309,rfl,h309,Xa⟩
 have HZ309:=Lib.hid h309
 have HL309:=Lib.hid h309.1
 clear h309
 have HB309:=Lib.hid (dX.out.kept Xa)
 have HK309:=Lib.hid (dU.out.trans (Kept.of_below Xa))
 clear Xa
 (try dsimp only)
 refine hK.out _ _ (HK309.out) (fun hHeld=>?_)
 clear hK K
 (try simp only [Act.put,sA,sZ,sS])
 refine wpAnyH_ready (rs:=[5]) (by kernel_rfl) (by simp) ?_
 refine AllReadyH.cons (o:=(⟨some 6,_,_,_,_,none⟩:Oper)) rfl (fun K hK=>?_) AllReadyH.nil
 go_simp
 go_at_call 68
 refine (bJ _ _ _ _ _ HXe.out HYe.out).mono ?_
 rintro e w310 ⟨z310,rfl,h310,W9⟩
 have HZ310:=Lib.hid h310
 have HL310:=Lib.hid h310.1
 clear h310
 have HB310:=Lib.hid (HB309.out.kept W9)
 have HK310:=Lib.hid (HK309.out.trans (Kept.of_below W9))
 clear W9
 (try dsimp only)
 refine hK.out _ _ (HK310.out) (fun hHeld=>?_)
 clear hK K
 (try simp only [Act.put,sA,sZ,sS])
 obtain ⟨v312,OT⟩:∃ x,x=xl ++ yl ++ z309 ++ z310:=⟨_,rfl⟩
 have HR312:Hid (∀ w,(Instr.build 100 #[(0, .agg (arr .i64 xl)),(1, .agg (arr .i64 yl)),(2, .agg (arr .i64 z309)),(3, .agg (arr .i64 z310))]).run Tryd.prog w = .ok (.agg (arr .i64 v312)) w):=Lib.hid (fun w=>by rw [OT];exact pR _ _ _ _ HXl.out HYl.out HL309.out HL310.out w)
 have HL312:Hid (v312.length=64):=Lib.hid (by rw [OT];exact yX HXl.out HYl.out HL309.out HL310.out)
 have HV312:=Lib.hid OT
 clear OT
 refine wpAnyH_take (i:=6) (oi:=(⟨some 7,_,_,_,_,none⟩:Oper)) (v:=(.agg (arr .i64 v312))) rfl (by kernel_rfl) (by kernel_rfl) (by kernel_rfl) (fun _ _ _ h=>h) (Or.inl ⟨by rfl,?hy311⟩) (by assumption) ?rest311
 case hy311=>(intro w hSw;(try dsimp only at hSw);exact ru 100 _ rfl #[(0, .agg (arr .i64 xl)),(1, .agg (arr .i64 yl)),(2, .agg (arr .i64 z309)),(3, .agg (arr .i64 z310))] rfl _ (HR312.out _))
 (try simp only [Act.put,sA,sZ,sS])
 refine wpAnyH_ready (rs:=[7]) (by kernel_rfl) (by simp) ?_
 refine AllReadyH.cons (o:=(⟨none,_,_,_,_,none⟩:Oper)) rfl (fun K hK=>?_) AllReadyH.nil
 refine aD rfl 100 (.tmp 0) (.tmp 7) rfl (w.heap.size) _ _ _ (HB310.out.get 0 rfl) rfl rfl (ay _ _ HL312.out jq.out) (lD HL312.out) (av _ _) ?_
 intro w313 hb313 VZ hz313
 have HB313:=Lib.hid (HB310.out.put 0 rfl VZ hb313)
 have HK313:=Lib.hid (HK310.out.trans VZ)
 clear hb313 VZ hz313
 refine hK.out _ _ (HK313.out) (fun hHeld=>?_)
 clear hK K
 (try simp only [Act.put])
 refine wpAnyH_done (by kernel_rfl) ?_ _
 have qK:=HB313
 have HWF:=HL312
 have HF0:=HV312
 have HF1:=HXe
 have HF2:=HYe
 have HF3:=HZ309
 have HF4:=HZ310
 (try simp only [Exit.then])
 go_wp2_with fail
 refine bodyPost_ret (results_cell_row rfl _ _ (w.heap.size) 100 _ (0,0) _ rfl (qK.out.get 0 rfl) Tryd.underlying100 rfl (lD HWF.out)) rfl ?_
 exact ⟨_,rfl,⟨_,_,_,_,HF0.out,HF1.out,HF2.out,HF3.out,HF4.out⟩,qK.out.below⟩
theorem U7 (P:Pt) (k n:Nat):jU P k (n+1)=if k / 2 ^ (255 - n) % 2=1 then gX (gX (jU P k n) (jU P k n)) P else gX (jU P k n) (jU P k n):=rfl
theorem GV (ps:List Int) (P:Pt) (v:Nat) (w:World) (hp:lZ ps P) (hT:vG w) :
  Calls Tryd.prog 50 #[.agg (arr .i64 ps), .agg (arr .u8 (aW (bD 256 32 v)))] w fun e w'=>∃ zs,e = .returned (.agg (arr .i64 zs))∧lZ zs (jU P v 256)∧Below w.heap.size w w':=by
 obtain ⟨zp,xS⟩:∃ zs:List Int,zs=List.replicate 64 0:=⟨_,rfl⟩
 have xD:Hid (∀ w,(zeroValue 100).run Tryd.prog w = .ok (.agg (arr .i64 zp)) w):=Lib.hid (by intro w;rw [xS];exact mW w)
 have jq:Hid (zp.length=64):=Lib.hid (by rw [xS];rfl)
 obtain ⟨es,hes⟩:∃ x,x=aW (bD 256 32 v):=⟨_,rfl⟩
 rw [← hes]
 have HES:=Lib.hid hes
 have IU:Hid (es.length=32):=Lib.hid (by rw [hes,aH,aI])
 have HX:=Lib.hid hp
 have iG:=Lib.hid hp.len
 have HT:=Lib.hid hT
 have bN:=Lib.hid (bM.three w (arr .i64 ps) (arr .u8 es) (arr .i64 zp) 100 23 100)
 clear xS hes hp hT
 go_enter Tryd.func50, Tryd.ntmps50
 go_wp2_with (first|((with_reducible refine aS 4 ?_);refine aj rfl 100 rfl _ (xD.out _) ?_)|((with_reducible show Calls _ _ #[] _ _);go_at_call 69; refine (JR _).mono ?_;rintro e w1 ⟨z1,rfl,h1,hb1⟩;have HZ1:=Lib.hid h1;have oH:=Lib.hid h1.len;have HB1:=Lib.hid (bN.out.kept hb1);clear h1 hb1)|((with_reducible refine aS 5 ?_);refine aj rfl 100 rfl _ (xD.out _) ?_;have HB2:=Lib.hid (HB1.out.alloc (arr .i64 zp) 100);generalize w1.heap.size=gx at HB2 ⊢)|((with_reducible refine aT 5 ?_);refine ah rfl 100 _ _ rfl (gx) _ _ 100 (HB2.out.get 3 rfl) rfl rfl (ay _ _ oH.out jq.out) (lD oH.out) (av _ _) ?_;intro w3 hb3 hk3 hz3;have HB3:=Lib.hid (HB2.out.put 3 rfl hk3 hb3);clear hb3 hk3 hz3))
 go_loopw [6] (fun v' wr=>∃ n:Nat,n≤256∧v' = .int .i64 (255 - (n:Int))∧∃ cs:List Int,lZ cs (jU P v n)∧bM w wr [(w.heap.size,arr .i64 ps, 100),(w.heap.size+1,arr .u8 es, 23),(w.heap.size+1+1,arr .i64 zp, 100),(gx,arr .i64 cs, 100)]) (fun v' _=>(intOf v'+1).toNat)
 case atStart=>exact ⟨0,Nat.zero_le _,rfl,_,HZ1.out,HB3.out⟩
 clear bN HB1 HB2 HB3
 case round =>
 obtain ⟨n,hn,rfl,cs,hcs,hB⟩:=hrel
 by_cases hlt:n < 256
 ·obtain ⟨i,hi⟩:∃ i:Nat,i+n=255:=⟨255 - n,by omega⟩
  have hz:(255:Int) - (n:Int)=(i:Int):=by omega
  have hi2:i < 256:=by omega
  obtain ⟨y,hy,hy2,hbit⟩:=zX es v i HES.out hi2
  have hpn:=U7 P v n
  rw [show 255 - n=i by omega] at hpn
  rw [hz]
  have IV:=Lib.hid hcs
  have mV:=Lib.hid hcs.len
  have HB:=Lib.hid hB
  have HI:=Lib.hid hi
  have HY:=Lib.hid hy
  clear hcs hB hy hz hi
  have q9:0≤(i:Int):=by omega
  rcases (show v / 2 ^ i % 2=0∨v / 2 ^ i % 2=1 by omega) with hb|hb
  ·rw [hb] at hbit
   rw [if_neg (by omega)] at hpn
   have hbit0:bits .and .u8 ((y:Int) / 2 ^ (i % 8)) 1=0:=hbit
   have Jf:=Lib.hid hpn
   clear hpn hb hbit
   go_wp2_with (first|((with_reducible refine aS 12 ?_);refine ak rfl 100 _ rfl (gx) 0 _ 100 (0,0) _ (HB.out.get 3 rfl) rfl .i64 cs (au _ _) Tryd.underlying100 rfl (JK mV.out) ?_)|((with_reducible refine aS 13 ?_);refine ak rfl 100 _ rfl (gx) 0 _ 100 (0,0) _ (HB.out.get 3 rfl) rfl .i64 cs (au _ _) Tryd.underlying100 rfl (JK mV.out) ?_)|((with_reducible show Calls _ _ #[.agg (arr _ cs), .agg (arr _ cs)] _ _);go_at_call 70; refine (DI _ _ _ _ _ IV.out IV.out (bA HT.out HB.out.below)).mono ?_;rintro e w5 ⟨z5,rfl,h5,hb5⟩;have HZ5:=Lib.hid h5;have MH:=Lib.hid h5.len;have gu:=Lib.hid (HB.out.kept hb5);clear h5 hb5)|((with_reducible refine aT 5 ?_);refine ah rfl 100 _ _ rfl (gx) _ _ 100 (gu.out.get 3 rfl) rfl rfl (ay _ _ MH.out mV.out) (lD MH.out) (av _ _) ?_;intro w6 hb6 xV Ka;have kQ:=Lib.hid (gu.out.put 3 rfl xV hb6);have q1:=aN (kQ.out.get 1 rfl) (i / 8) (by rw [IU.out];omega);rw [HY.out] at q1;clear hb6 xV Ka))
   go_roundw
   case rel =>
    have e:=HI.out
    exact ⟨n+1,by omega,by congr 1;omega,_,by rw [Jf.out];exact HZ5.out,kQ.out⟩
   case measure=>simp [intOf]
  ·rw [if_pos hb] at hpn
   rw [hb] at hbit
   have hbit1:bits .and .u8 ((y:Int) / 2 ^ (i % 8)) 1=1:=hbit
   have Jf:=Lib.hid hpn
   clear hpn hb hbit
   go_wp2_with (first|((with_reducible refine aS 12 ?_);refine ak rfl 100 _ rfl (gx) 0 _ 100 (0,0) _ (HB.out.get 3 rfl) rfl .i64 cs (au _ _) Tryd.underlying100 rfl (JK mV.out) ?_)|((with_reducible refine aS 13 ?_);refine ak rfl 100 _ rfl (gx) 0 _ 100 (0,0) _ (HB.out.get 3 rfl) rfl .i64 cs (au _ _) Tryd.underlying100 rfl (JK mV.out) ?_)|((with_reducible show Calls _ _ #[.agg (arr _ cs), .agg (arr _ cs)] _ _);go_at_call 70; refine (DI _ _ _ _ _ IV.out IV.out (bA HT.out HB.out.below)).mono ?_;rintro e w5 ⟨z5,rfl,h5,hb5⟩;have HZ5:=Lib.hid h5;have MH:=Lib.hid h5.len;have gu:=Lib.hid (HB.out.kept hb5);clear h5 hb5)|(with_reducible refine aT 5 (x:=(Operand.tmp 14)) ?_);((with_reducible refine aT 5 ?_);refine ah rfl 100 _ _ rfl (gx) _ _ 100 (gu.out.get 3 rfl) rfl rfl (ay _ _ MH.out mV.out) (lD MH.out) (av _ _) ?_;intro w6 hb6 xV Ka;have kQ:=Lib.hid (gu.out.put 3 rfl xV hb6);have q1:=aN (kQ.out.get 1 rfl) (i / 8) (by rw [IU.out];omega);rw [HY.out] at q1;clear hb6 xV Ka)|((with_reducible refine aS 25 ?_);refine ak rfl 100 _ rfl (gx) 0 _ 100 (0,0) _ (kQ.out.get 3 rfl) rfl .i64 z5 (au _ _) Tryd.underlying100 rfl (JK MH.out) ?_)|((with_reducible refine aS 26 ?_);refine ak rfl 100 _ rfl (w.heap.size) 0 _ 100 (0,0) _ (kQ.out.get 0 rfl) rfl .i64 ps (au _ _) Tryd.underlying100 rfl (JK iG.out) ?_)|((with_reducible show Calls _ _ #[.agg (arr _ z5), .agg (arr _ ps)] _ _);go_at_call 70; refine (DI _ _ _ _ _ HZ5.out HX.out (bA HT.out kQ.out.below)).mono ?_;rintro e w7 ⟨z7,rfl,h7,dV⟩;have HZ7:=Lib.hid h7;have HL7:=Lib.hid h7.len;have eX:=Lib.hid (kQ.out.kept dV);clear h7 dV)|(with_reducible refine aT 5 (x:=(Operand.tmp 27)) ?_);((with_reducible refine aT 5 ?_);refine ah rfl 100 _ _ rfl (gx) _ _ 100 (eX.out.get 3 rfl) rfl rfl (ay _ _ HL7.out MH.out) (lD HL7.out) (av _ _) ?_;intro w8 jH nU qZ;have fM:=Lib.hid (eX.out.put 3 rfl nU jH);clear jH nU qZ))
   go_roundw
   case rel =>
    have e:=HI.out
    exact ⟨n+1,by omega,by congr 1;omega,_,by rw [Jf.out];exact HZ7.out,fM.out⟩
   case measure=>simp [intOf]
 ·obtain rfl:n=256:=by omega
  have hz:(255:Int) - ((256:Nat):Int) = -1:=by omega
  rw [hz]
  have IV:=Lib.hid hcs
  have mV:=Lib.hid hcs.len
  have HB:=Lib.hid hB
  clear hcs hB hz
  go_wp2_with (first|((with_reducible refine aS 28 ?_);refine ak rfl 100 _ rfl (gx) 0 _ 100 (0,0) _ (HB.out.get 3 rfl) rfl .i64 cs (au _ _) Tryd.underlying100 rfl (JK mV.out) ?_)|((with_reducible refine aT 4 ?_);refine ah rfl 100 _ _ rfl (w.heap.size+1+1) _ _ 100 (HB.out.get 2 rfl) rfl rfl (ay _ _ mV.out jq.out) (lD mV.out) (av _ _) ?_;intro w8 jH nU qZ;have fM:=Lib.hid (HB.out.put 2 rfl nU jH);clear jH nU qZ))
  (try simp only [Exit.inBlock,Exit.then])
  refine bodyPost_ret (results_cell_row rfl _ _ (w.heap.size+1+1) 100 _ (0,0) _ rfl (fM.out.get 2 rfl) Tryd.underlying100 rfl (lD mV.out)) rfl ?_
  exact ⟨_,rfl,IV.out,fM.out.below⟩
end Go.Proofs.YthdgbgleklkaiaaDoor.Rd
namespace Go.Proofs.YthdgbgleklkaiaaDoor.Rd
open Go.RowKit Lm Fp Cu
theorem wD (ps:List Int) (P:Pt) (w:World) (hp:lZ ps P):Calls Tryd.prog 49 #[.agg (arr .i64 ps)] w fun e w'=>e = .returned (.agg (arr .u8 (aW (bD 256 32 (lu P)))))∧Below w.heap.size w w':=by
 have HmW:=Lib.hid hp.len
 obtain ⟨mx,my,mz,mt,hme,hmx,tQ,hmz,hmt⟩:=hp
 have Hmx:=Lib.hid hmx
 have HmxL:=Lib.hid hmx.1
 have Hmy:=Lib.hid tQ
 have HmyL:=Lib.hid tQ.1
 have Hmz:=Lib.hid hmz
 have HmzL:=Lib.hid hmz.1
 have Hmt:=Lib.hid hmt
 have HmtL:=Lib.hid hmt.1
 have hmP:=q8 .i64 mx my mz mt 16 hmx.1 tQ.1 hmz.1 hmt.1
 rw [← hme] at hmP
 have HmP:=Lib.hid hmP
 clear hmx tQ hmz hmt hme hmP
 obtain ⟨X,hX⟩:∃ x,x=aA P.x (finv P.z):=⟨_,rfl⟩
 obtain ⟨Y,hY⟩:∃ x,x=aA P.y (finv P.z):=⟨_,rfl⟩
 have hYlt:Y < 2 ^ 255:=by rw [hY];exact Nat.lt_of_lt_of_le (dD _ _) (by decide +kernel)
 have hen:=enc_set Y (X % 2) hYlt (by omega)
 obtain ⟨ht1,ht2⟩:=TY Y hYlt
 have hlb:=zk X
 have heb:lu P=Y+2 ^ 255 * (X % 2):=by rw [hX,hY];rfl
 rw [heb,← hen]
 have hox:=fun xs w (h:El xs (aA P.x (finv P.z)))=>nD xs _ w h
 have hoy:=fun xs w (h:El xs (aA P.y (finv P.z)))=>nD xs _ w h
 rw [← hX] at hox
 rw [← hY] at hoy
 obtain ⟨bx8,hbx⟩:∃ x,x=aW (bD 256 32 X):=⟨_,rfl⟩
 obtain ⟨by8,hby⟩:∃ x,x=aW (bD 256 32 Y):=⟨_,rfl⟩
 have HBXL:Hid (bx8.length=32):=Lib.hid (by rw [hbx,aH,aI])
 have HBYL:Hid (by8.length=32):=Lib.hid (by rw [hby,aH,aI])
 have g0:bx8.getD 0 0=((X % 256:Nat):Int):=by rw [hbx,bG,hlb]
 have g1:by8.getD 31 0=((Y / 256 ^ 31:Nat):Int):=by rw [hby,bG,ht1]
 have hfin:by8.set 31 ((Y / 256 ^ 31+128 * (X % 2):Nat):Int)=aW ((bD 256 32 Y).set 31 (Y / 256 ^ 31+128 * (X % 2))):=by rw [dn,hby]
 rw [← hbx] at hox
 rw [← hby] at hoy
 rw [← hfin]
 have ha:=Zy (X % 256) (Nat.mod_lt _ (by decide))
 rw [Nat.mod_mod_of_dvd X (show 2 ∣ 256 by decide)] at ha
 generalize Y / 256 ^ 31=q at ht2 g1
 have hor:bits .or .u8 (q:Int) (((X % 2:Nat):Int) * 128)=((q+128 * (X % 2):Nat):Int):=by
  have h1:(BitVec.ofInt 8 (q:Int)).toNat=q:=by rw [BitVec.ofInt_natCast,BitVec.toNat_ofNat];exact Nat.mod_eq_of_lt (by omega)
  rcases (show X % 2=0∨X % 2=1 by omega) with h|h
  ·rw [h]
   show IntKind.u8.wrap ((BitVec.ofInt 8 (q:Int) ||| BitVec.ofInt 8 (((0:Nat):Int) * 128)).toNat:Int)=_
   rw [BitVec.toNat_or,h1,show (BitVec.ofInt 8 (((0:Nat):Int) * 128)).toNat=0 from by decide,Nat.or_zero,IntKind.wrap_u8]
   omega
  ·rw [h]
   show IntKind.u8.wrap ((BitVec.ofInt 8 (q:Int) ||| BitVec.ofInt 8 (((1:Nat):Int) * 128)).toNat:Int)=_
   have h3:q ||| 128=128+q:=by
    rw [Nat.or_comm]
    have:=Nat.two_pow_add_eq_or_of_lt (i:=7) (b:=q) (by omega) 1
    simpa using this.symm
   rw [BitVec.toNat_or,h1,show (BitVec.ofInt 8 (((1:Nat):Int) * 128)).toNat=128 from by decide,h3,IntKind.wrap_u8]
   omega
 obtain ⟨rs,hrs⟩:∃ r,r=by8.set 31 ((q+128 * (X % 2):Nat):Int):=⟨_,rfl⟩
 rw [← hrs]
 have iK:Hid (rs.length=32):=Lib.hid (by rw [hrs,List.length_set];exact HBYL.out)
 have EW:=Lib.hid hrs
 have HOX:=Lib.hid hox
 have HOY:=Lib.hid hoy
 have HOR:=Lib.hid hor
 have HA:=Lib.hid ha
 have HG0:=Lib.hid g0
 have rZ:=Lib.hid g1
 have HXE:=Lib.hid hX
 have HYE:=Lib.hid hY
 obtain ⟨ze,iH⟩:∃ zs:List Int,zs=List.replicate 16 0:=⟨_,rfl⟩
 have dM:Hid (∀ w,(zeroValue 98).run Tryd.prog w = .ok (.agg (arr .i64 ze)) w):=Lib.hid (by intro w;rw [iH];exact gF w)
 have dB:Hid (ze.length=16):=Lib.hid (by rw [iH];rfl)
 obtain ⟨zn,hzn⟩:∃ zs:List Int,zs=List.replicate 32 0:=⟨_,rfl⟩
 have dx:Hid (∀ w,(zeroValue 23).run Tryd.prog w = .ok (.agg (arr .u8 zn)) w):=Lib.hid (by intro w;rw [hzn];exact zero_num w)
 have cB:Hid (zn.length=32):=Lib.hid (by rw [hzn];rfl)
 have bN:=Lib.hid (bM.two w (arr .i64 ps) (arr .u8 zn) 100 23)
 clear iH hzn hen ht1 hlb heb hox hoy hbx hby hfin hor hrs ha g0 g1 hX hY hYlt
 go_enter Tryd.func49, Tryd.ntmps49
 go_upto_region 1 with (first|((with_reducible refine aS 2 ?_);refine aj rfl 23 rfl _ (dx.out _) ?_))
 (try simp only [World.size_alloc,Act.put,sA,sZ,sS])
 generalize ((w.alloc (.cells (arr .i64 ps) 100)).alloc (.cells (arr .u8 zn) 23))=wb at bN ⊢
 go_upto_region 2 with (first|((with_reducible refine aS 7 ?_);refine ak rfl 98 _ rfl (w.heap.size) (32) _ 100 (0,0) _ (bN.out.get 0 rfl) rfl .i64 mz (HmP.out.2.2.1) Tryd.underlying98 rfl (bI HmzL.out) ?_)|((with_reducible show Calls _ 66 #[.agg _] _ _);go_at_call 66; refine (Er _ _ _ Hmz.out).mono ?_;rintro e w501 ⟨z501,rfl,h501,hb501⟩;have HZ501:=Lib.hid h501;have PI:=Lib.hid h501.1;clear h501;have HB501:=Lib.hid (bN.out.kept hb501);clear hb501)|((with_reducible refine aS 3 ?_);refine aj rfl 98 rfl _ (dM.out _) ?_;have P8:=Lib.hid (HB501.out.alloc (arr .i64 ze) 98);generalize w501.heap.size=g502 at P8 ⊢; generalize w501.alloc (.cells (arr .i64 ze) 98)=w502 at P8 ⊢)|((with_reducible refine aT 3 (x:=(Operand.tmp 8)) ?_);refine ah rfl 98 _ _ rfl (g502) _ _ 98 (P8.out.get 2 rfl) rfl rfl (ay _ _ PI.out dB.out) (cO PI.out) (av _ _) ?_;intro w503 hb503 hk503 hz503;have HB503:=Lib.hid (P8.out.put 2 rfl hk503 hb503);clear hb503 hk503 hz503))
 go_upto_region 3 with (first|((with_reducible refine aS 10 ?_);refine ak rfl 98 _ rfl (w.heap.size) (0) _ 100 (0,0) _ (HB503.out.get 0 rfl) rfl .i64 mx (HmP.out.1) Tryd.underlying98 rfl (bI HmxL.out) ?_)|((with_reducible refine aS 11 ?_);refine ak rfl 98 _ rfl (g502) (0) _ 98 (0,0) _ (HB503.out.get 2 rfl) rfl .i64 z501 (au _ _) Tryd.underlying98 rfl (bI PI.out) ?_)|((with_reducible show Calls _ 68 #[.agg _, .agg _] _ _);go_at_call 68; refine (bJ _ _ _ _ _ Hmx.out HZ501.out).mono ?_;rintro e w504 ⟨z504,rfl,h504,hb504⟩;have HZ504:=Lib.hid h504;have HL504:=Lib.hid h504.1;clear h504;have HB504:=Lib.hid (HB503.out.kept hb504);clear hb504)|((with_reducible show Calls _ 67 #[.agg _] _ _);go_at_call 67; refine (HOX.out _ _ (by rw [HXE.out];exact HZ504.out)).mono ?_;rintro e w505 ⟨rfl,hb505⟩;have HB505:=Lib.hid (HB504.out.kept hb505);clear hb505)|((with_reducible refine aS 4 ?_);refine aj rfl 23 rfl _ (dx.out _) ?_;have P7:=Lib.hid (HB505.out.alloc (arr .u8 zn) 23);generalize w505.heap.size=g506 at P7 ⊢; generalize w505.alloc (.cells (arr .u8 zn) 23)=w506 at P7 ⊢)|((with_reducible refine aT 4 (x:=(Operand.tmp 13)) ?_);refine ah rfl 23 _ _ rfl (g506) _ _ 23 (P7.out.get 3 rfl) rfl rfl (ay _ _ HBXL.out cB.out) (bE HBXL.out) (av _ _) ?_;intro w507 hb507 hk507 hz507;have HB507:=Lib.hid (P7.out.put 3 rfl hk507 hb507);clear hb507 hk507 hz507))
 go_upto_region 4 with (first|((with_reducible refine aS 15 ?_);refine ak rfl 98 _ rfl (w.heap.size) (16) _ 100 (0,0) _ (HB507.out.get 0 rfl) rfl .i64 my (HmP.out.2.1) Tryd.underlying98 rfl (bI HmyL.out) ?_)|((with_reducible refine aS 16 ?_);refine ak rfl 98 _ rfl (g502) (0) _ 98 (0,0) _ (HB507.out.get 2 rfl) rfl .i64 z501 (au _ _) Tryd.underlying98 rfl (bI PI.out) ?_)|((with_reducible show Calls _ 68 #[.agg _, .agg _] _ _);go_at_call 68; refine (bJ _ _ _ _ _ Hmy.out HZ501.out).mono ?_;rintro e w508 ⟨z508,rfl,h508,hb508⟩;have HZ508:=Lib.hid h508;have HL508:=Lib.hid h508.1;clear h508;have HB508:=Lib.hid (HB507.out.kept hb508);clear hb508)|((with_reducible show Calls _ 67 #[.agg _] _ _);go_at_call 67; refine (HOY.out _ _ (by rw [HYE.out];exact HZ508.out)).mono ?_;rintro e w509 ⟨rfl,hb509⟩;have HB509:=Lib.hid (HB508.out.kept hb509);clear hb509)|((with_reducible refine aS 5 ?_);refine aj rfl 23 rfl _ (dx.out _) ?_;have P6:=Lib.hid (HB509.out.alloc (arr .u8 zn) 23);generalize w509.heap.size=g510 at P6 ⊢; generalize w509.alloc (.cells (arr .u8 zn) 23)=w510 at P6 ⊢)|((with_reducible refine aT 5 (x:=(Operand.tmp 18)) ?_);refine ah rfl 23 _ _ rfl (g510) _ _ 23 (P6.out.get 4 rfl) rfl rfl (ay _ _ HBYL.out cB.out) (bE HBYL.out) (av _ _) ?_;intro w511 hb511 hk511 hz511;have P5:=Lib.hid (P6.out.put 4 rfl hk511 hb511);clear hb511 hk511 hz511))
 have q0:=aN (P5.out.get 3 rfl) 0 (by rw [HBXL.out];decide)
 have q1:=aN (P5.out.get 4 rfl) 31 (by rw [HBYL.out];decide)
 have q2:=aC (P5.out.get 4 rfl) 31
 rw [HG0.out] at q0
 rw [rZ.out] at q1
 have hb1:=P5.out.cell 4 rfl 31 (.int .u8 (bits .or .u8 (q:Int) (bits .and .u8 ((X % 256:Nat):Int) 1 * 128)))
 have e2:(arr .u8 by8).setIfInBounds 31 (.int .u8 (bits .or .u8 (q:Int) (bits .and .u8 ((X % 256:Nat):Int) 1 * 128)))=arr .u8 rs:=by rw [HA.out,HOR.out,aY,EW.out]
 have qd:=Lib.hid (hb1.cast (l':=[(w.heap.size,arr .i64 ps, 100),(w.heap.size+1,arr .u8 zn, 23),(g502,(arr .i64 z501), 98),(g506,(arr .u8 bx8), 23),(g510,arr .u8 rs, 23)]) (by rw [← e2];rfl))
 have hx2:bits .and .u8 ((X % 256:Nat):Int) 1=0∨bits .and .u8 ((X % 256:Nat):Int) 1=1:=by rw [HA.out];omega
 generalize X % 256=xq at q0 hx2 qd
 clear hb1 e2
 go_wp2_with (first|((with_reducible refine aS 27 ?_);refine ak rfl 23 _ rfl (g510) 0 _ 23 (0,0) _ (qd.out.get 4 rfl) rfl .u8 rs (au _ _) Tryd.underlying23 rfl (bU iK.out) ?_)|((with_reducible refine aT 2 ?_);refine ah rfl 23 _ _ rfl (w.heap.size+1) _ _ 23 (qd.out.get 1 rfl) rfl rfl (ay _ _ iK.out cB.out) (bE iK.out) (av _ _) ?_;intro TH Ye hk10 hz10;have HB10:=Lib.hid (qd.out.put 1 rfl hk10 Ye);clear Ye hk10 hz10))
 (try simp only [Exit.then])
 refine bodyPost_ret (results_cell_row rfl _ _ (w.heap.size+1) 23 _ (0,0) _ rfl (HB10.out.get 1 rfl) Tryd.underlying23 rfl (bE iK.out)) rfl ?_
 exact ⟨by rw [EW.out],HB10.out.below⟩
end Go.Proofs.YthdgbgleklkaiaaDoor.Rd
namespace Go.Proofs.YthdgbgleklkaiaaDoor.Rd
open Go.RowKit Lm Sc
theorem NT (w:World):(zeroValue 141).run Tryd.prog w = .ok (.agg (arr .i64 (List.replicate 33 0))) w:=by kernel_rfl
theorem Oe:(Tryd.prog.info? 141).map (·.size)=some 33:=by kernel_rfl
theorem BU {xs:List Int} (h:xs.length=33):(Tryd.prog.info? 141).map (·.size)=some (arr .i64 xs).size:=by rw [aF,h];exact Oe
theorem N9 {xs:List Int} (h:xs.length=33):(Tryd.prog.info? 141).map (·.size)=some xs.length:=by rw [h];exact Oe
def qL:List Int:=[0xed,0xd3,0xf5,0x5c,0x1a,0x63,0x12,0x58,0xd6,0x9c,0xf7,0xa2,0xde,0xf9,0xde,0x14,0,0,0,0,0,0,0,0,0,0,0,0,0,0,0,0x10]
theorem qL_eq:qL=aW (bD 256 32 q):=by decide +kernel
def mP (w:World):Prop:=∀ t,t < 32→w.cell? ⟨6, t,none⟩=some (.int .i64 (qL.getD t 0))
theorem mP.below {a b:World} (h:mP a) (k:Below a.heap.size a b):mP b:=fun t ht=>(Kept.of_below k (T:=fun _=>False)).lM (h t ht) id
theorem q33 (k:Nat) (h:k < 33):(bD 256 33 q).getD k 0=if k < 32 then (bD 256 32 q).getD k 0 else 0:=by
 rw [dA _ _ _ _ h]
 split
 ·rename_i h2;rw [dA _ _ _ _ h2]
 ·obtain rfl:k=32:=by omega
  decide +kernel
theorem val33:val 256 (bD 256 33 q)=q:=by decide +kernel
theorem qL_get (k:Nat) (h:k < 32):qL.getD k 0=(((bD 256 33 q).getD k 0:Nat):Int):=by rw [q33 k (by omega),if_pos h,qL_eq,bG]
theorem sub33 (N S c:Nat) (h:S+q=N+256 ^ 33 * c) (hS:S < 256 ^ 33) (_hN:N < 256 ^ 33) (hc:c≤1):(c=1∧N < q)∨(c=0∧¬ N < q∧S=N - q):=by
 have hq:q < 256 ^ 33:=by decide +kernel
 rcases (show c=0∨c=1 by omega) with rfl|rfl
 ·right;omega
 ·left;omega
theorem Vj (N:Nat) (w:World) (hN:N < 256 ^ 33) (hT:mP w) :
  Calls Tryd.prog 96 #[.agg (arr .i64 (aW (bD 256 33 N)))] w fun e w'=>e = .returned (.agg (arr .i64 (aW (bD 256 33 (if N < q then N else N - q)))))∧Below w.heap.size w w':=by
 obtain ⟨rs,hrs⟩:∃ r,r=bD 256 33 N:=⟨_,rfl⟩
 have rl:rs.length=33:=by rw [hrs,aI]
 have rb:∀ x∈rs,x < 256:=by rw [hrs];exact gV 256 (by decide) _ _
 have rv:val 256 rs=N:=by rw [hrs,eT,Nat.mod_eq_of_lt hN]
 obtain ⟨qs,hqs⟩:∃ r,r=bD 256 33 q:=⟨_,rfl⟩
 have ql:qs.length=33:=by rw [hqs,aI]
 have qb:∀ x∈qs,x < 256:=by rw [hqs];exact gV 256 (by decide) _ _
 have qv:val 256 qs=q:=by rw [hqs];exact val33
 have qg:∀ k,k < 32→qL.getD k 0=((qs.getD k 0:Nat):Int):=fun k h=>by rw [hqs];exact qL_get k h
 have q32:qs.getD 32 0=0:=by rw [hqs,q33 32 (by decide),if_neg (by decide)]
 have hfin:=fun S c h1 h2 h3=>sub33 N S c h1 h2 hN h3
 rw [← hrs]
 obtain ⟨V,hV⟩:∃ V,V=if N < q then N else N - q:=⟨_,rfl⟩
 rw [← hV]
 have HV:=Lib.hid hV
 have RL:=Lib.hid rl
 have RB:=Lib.hid rb
 have RV:=Lib.hid rv
 have QL:=Lib.hid ql
 have QB:=Lib.hid qb
 have QV:=Lib.hid qv
 have QG:=Lib.hid qg
 have Q32:=Lib.hid q32
 have HF:=Lib.hid hfin
 have HT:=Lib.hid hT
 have EW:=Lib.hid hrs
 obtain ⟨zr,hzr⟩:∃ zs:List Int,zs=List.replicate 33 0:=⟨_,rfl⟩
 have HZzr:Hid (∀ w,(zeroValue 141).run Tryd.prog w = .ok (.agg (arr .i64 zr)) w):=Lib.hid (by intro w;rw [hzr];exact NT w)
 have HLzr:Hid (zr.length=33):=Lib.hid (by rw [hzr];rfl)
 obtain ⟨r0,hr0⟩:∃ x,x=aW rs:=⟨_,rfl⟩
 have IE:Hid (r0=aW rs):=Lib.hid hr0
 have iK:Hid (r0.length=33):=Lib.hid (by rw [hr0,aH,rl])
 rw [← hr0]
 have HSa:=Lib.hid (bM.two w (arr .i64 r0) (arr .i64 zr) 141 141)
 clear hzr rl rb rv ql qb qv qg q32 hfin hT hrs hqs hr0 hV
 go_enter Tryd.func96, Tryd.ntmps96
 go_upto_region 1 with (first|((with_reducible refine aS 2 ?_);refine aj rfl 141 rfl _ (HZzr.out _) ?_))
 (try simp only [World.size_alloc,Act.put,sA,sZ,sS])
 generalize ((w.alloc (.cells (arr .i64 r0) 141)).alloc (.cells (arr .i64 zr) 141))=wb at HSa ⊢
 go_wp2_with (first|((with_reducible refine aS 7 ?_);refine ak rfl 141 _ rfl (w.heap.size) 0 _ 141 (0,0) _ (HSa.out.get 0 rfl) rfl .i64 r0 (au _ _) Tryd.underlying141 rfl (N9 iK.out) ?_)|((with_reducible refine aS 3 ?_);refine aj rfl 141 rfl _ (HZzr.out _) ?_;have bN:=Lib.hid (HSa.out.alloc (arr .i64 zr) 141);generalize wb.heap.size=gm at bN ⊢; generalize wb.alloc (.cells (arr .i64 zr) 141)=wm at bN ⊢)|((with_reducible refine aT 3 ?_);refine ah rfl 141 _ _ rfl (gm) _ _ 141 (bN.out.get 2 rfl) rfl rfl (ay _ _ iK.out HLzr.out) (BU iK.out) (av _ _) ?_;intro w1 hb1 hk1 hz1;have HB1:=Lib.hid (bN.out.put 2 rfl hk1 hb1);clear hb1 hk1 hz1))
 go_loopw [4,5,6] (fun cv kv xv wr=>∃ (k c:Nat) (ms:List Nat),k≤33∧kv = .int .i64 k∧cv = .int .i64 c∧c≤1∧ms.length=33∧(∀ x∈ms,x < 256)∧(∀ j,k≤j→ms.getD j 0=rs.getD j 0)∧val 256 (ms.take k)+val 256 (qs.take k)=val 256 (rs.take k)+256 ^ k * c∧bM w wr [(w.heap.size,arr .i64 r0, 141),(w.heap.size+1,arr .i64 zr, 141),(gm,arr .i64 (aW ms), 141)]) (fun _ kv _ _=>33 - (intOf kv).toNat)
 case atStart=>exact ⟨0,0,rs,Nat.zero_le _,rfl,rfl,Nat.zero_le _,RL.out,RB.out,(fun _ _=>rfl),by simp [val],by rw [← IE.out];exact HB1.out⟩
 clear HSa bN HB1
 case round =>
 obtain ⟨k,c,ms,hk,rfl,rfl,hc,hml,hmb,hmr,hv,hB⟩:=hrel
 by_cases hlt:k < 33
 ·have q0:=aN (hB.get 0 rfl) k (by rw [iK.out];exact hlt)
  have q2:=aN (hB.get 2 rfl) k (by rw [aH,hml];exact hlt)
  have q3:=aC (hB.get 2 rfl) k
  rw [IE.out,bG] at q0
  have r1:=dw RB.out (by decide) k
  have y1:=dw QB.out (by decide) k
  have st:=fun s c' hs=>Uc 256 k _ _ _ (rs.getD k 0) (qs.getD k 0) c s c' hv hs
  have vm:=fun s=>kr 256 ms k s (by omega)
  rw [← bS 256 qs k (by rw [QL.out];exact hlt),← bS 256 rs k (by rw [RL.out];exact hlt)] at st
  have Kh:k=32→qs.getD k 0=0:=fun e=>by rw [e];exact Q32.out
  have hqt:k < 32→wr.cell? ⟨6, k,none⟩=some (.int .i64 ((qs.getD k 0:Nat):Int)):=fun e=>by
   have:=HT.out.below hB.below k e
   rwa [QG.out k e] at this
  generalize rs.getD k 0=r at q0 r1 st
  generalize qs.getD k 0=y at y1 st Kh hqt
  by_cases h32:k < 32
  ·by_cases hbr:r < y+c
   ·skip
    have qt:=hqt h32
    have hneg:(r:Int) - (c:Int) - (y:Int) < 0:=by omega
    have hst:=st (r+256 - c - y) 1 (by omega)
    rw [← vm] at hst
    have hb1:=hB.cell 2 rfl k (.int .i64 ((r:Int) - (c:Int) - (y:Int)+256))
    have e2:(arr .i64 (aW ms)).setIfInBounds k (.int .i64 ((r:Int) - (c:Int) - (y:Int)+256))=arr .i64 (aW (ms.set k (r+256 - c - y))):=by rw [show ((r:Int) - (c:Int) - (y:Int)+256)=(((r+256 - c - y):Nat):Int) by omega,aY,← dn]
    have HB1:=Lib.hid (hb1.cast (l':=[(w.heap.size,arr .i64 r0, 141),(w.heap.size+1,arr .i64 zr, 141),(gm,arr .i64 (aW (ms.set k (r+256 - c - y))), 141)]) (by rw [← e2];rfl))
    have HST:=Lib.hid hst
    have uG:Hid ((ms.set k (r+256 - c - y)).length=33):=Lib.hid (by rw [List.length_set,hml])
    have HMB:Hid (∀ x∈ms.set k (r+256 - c - y),x < 256):=Lib.hid (jC hmb _ _ (by omega))
    have HMR:Hid (∀ j,k+1≤j→(ms.set k (r+256 - c - y)).getD j 0=rs.getD j 0):=Lib.hid (by intro j hj;have e:=hmr j (by omega);simp only [List.getD] at e ⊢; rw [List.getElem?_set_ne (by omega)];exact e)
    clear hb1 e2 hst st vm hB hml hmb hmr hv hqt Kh
    go_wp2_with fail
    go_roundw
    case rel=>exact ⟨k+1,1,_,by omega,by go_num,rfl,by omega,uG.out,HMB.out,HMR.out,HST.out,HB1.out⟩
    case measure=>simp [intOf];omega
   ·skip
    have qt:=hqt h32
    have hneg:¬ (r:Int) - (c:Int) - (y:Int) < 0:=by omega
    have hst:=st (r - c - y) 0 (by omega)
    rw [← vm] at hst
    have hb1:=hB.cell 2 rfl k (.int .i64 ((r:Int) - (c:Int) - (y:Int)))
    have e2:(arr .i64 (aW ms)).setIfInBounds k (.int .i64 ((r:Int) - (c:Int) - (y:Int)))=arr .i64 (aW (ms.set k (r - c - y))):=by rw [show ((r:Int) - (c:Int) - (y:Int))=(((r - c - y):Nat):Int) by omega,aY,← dn]
    have HB1:=Lib.hid (hb1.cast (l':=[(w.heap.size,arr .i64 r0, 141),(w.heap.size+1,arr .i64 zr, 141),(gm,arr .i64 (aW (ms.set k (r - c - y))), 141)]) (by rw [← e2];rfl))
    have HST:=Lib.hid hst
    have uG:Hid ((ms.set k (r - c - y)).length=33):=Lib.hid (by rw [List.length_set,hml])
    have HMB:Hid (∀ x∈ms.set k (r - c - y),x < 256):=Lib.hid (jC hmb _ _ (by omega))
    have HMR:Hid (∀ j,k+1≤j→(ms.set k (r - c - y)).getD j 0=rs.getD j 0):=Lib.hid (by intro j hj;have e:=hmr j (by omega);simp only [List.getD] at e ⊢; rw [List.getElem?_set_ne (by omega)];exact e)
    clear hb1 e2 hst st vm hB hml hmb hmr hv hqt Kh
    go_wp2_with fail
    go_roundw
    case rel=>exact ⟨k+1,0,_,by omega,by go_num,rfl,by omega,uG.out,HMB.out,HMR.out,HST.out,HB1.out⟩
    case measure=>simp [intOf];omega
  ·by_cases hbr:r < y+c
   ·skip
    have y0:=Kh (by omega)
    have hneg:(r:Int) - (c:Int) < 0:=by omega
    have hst:=st (r+256 - c - y) 1 (by omega)
    rw [← vm] at hst
    have hb1:=hB.cell 2 rfl k (.int .i64 ((r:Int) - (c:Int)+256))
    have e2:(arr .i64 (aW ms)).setIfInBounds k (.int .i64 ((r:Int) - (c:Int)+256))=arr .i64 (aW (ms.set k (r+256 - c - y))):=by rw [show ((r:Int) - (c:Int)+256)=(((r+256 - c - y):Nat):Int) by omega,aY,← dn]
    have HB1:=Lib.hid (hb1.cast (l':=[(w.heap.size,arr .i64 r0, 141),(w.heap.size+1,arr .i64 zr, 141),(gm,arr .i64 (aW (ms.set k (r+256 - c - y))), 141)]) (by rw [← e2];rfl))
    have HST:=Lib.hid hst
    have uG:Hid ((ms.set k (r+256 - c - y)).length=33):=Lib.hid (by rw [List.length_set,hml])
    have HMB:Hid (∀ x∈ms.set k (r+256 - c - y),x < 256):=Lib.hid (jC hmb _ _ (by omega))
    have HMR:Hid (∀ j,k+1≤j→(ms.set k (r+256 - c - y)).getD j 0=rs.getD j 0):=Lib.hid (by intro j hj;have e:=hmr j (by omega);simp only [List.getD] at e ⊢; rw [List.getElem?_set_ne (by omega)];exact e)
    clear hb1 e2 hst st vm hB hml hmb hmr hv hqt Kh
    go_wp2_with fail
    go_roundw
    case rel=>exact ⟨k+1,1,_,by omega,by go_num,rfl,by omega,uG.out,HMB.out,HMR.out,HST.out,HB1.out⟩
    case measure=>simp [intOf];omega
   ·skip
    have y0:=Kh (by omega)
    have hneg:¬ (r:Int) - (c:Int) < 0:=by omega
    have hst:=st (r - c - y) 0 (by omega)
    rw [← vm] at hst
    have hb1:=hB.cell 2 rfl k (.int .i64 ((r:Int) - (c:Int)))
    have e2:(arr .i64 (aW ms)).setIfInBounds k (.int .i64 ((r:Int) - (c:Int)))=arr .i64 (aW (ms.set k (r - c - y))):=by rw [show ((r:Int) - (c:Int))=(((r - c - y):Nat):Int) by omega,aY,← dn]
    have HB1:=Lib.hid (hb1.cast (l':=[(w.heap.size,arr .i64 r0, 141),(w.heap.size+1,arr .i64 zr, 141),(gm,arr .i64 (aW (ms.set k (r - c - y))), 141)]) (by rw [← e2];rfl))
    have HST:=Lib.hid hst
    have uG:Hid ((ms.set k (r - c - y)).length=33):=Lib.hid (by rw [List.length_set,hml])
    have HMB:Hid (∀ x∈ms.set k (r - c - y),x < 256):=Lib.hid (jC hmb _ _ (by omega))
    have HMR:Hid (∀ j,k+1≤j→(ms.set k (r - c - y)).getD j 0=rs.getD j 0):=Lib.hid (by intro j hj;have e:=hmr j (by omega);simp only [List.getD] at e ⊢; rw [List.getElem?_set_ne (by omega)];exact e)
    clear hb1 e2 hst st vm hB hml hmb hmr hv hqt Kh
    go_wp2_with fail
    go_roundw
    case rel=>exact ⟨k+1,0,_,by omega,by go_num,rfl,by omega,uG.out,HMB.out,HMR.out,HST.out,HB1.out⟩
    case measure=>simp [intOf];omega
 ·obtain rfl:k=33:=by omega
  rw [List.take_of_length_le (Nat.le_of_eq hml),List.take_of_length_le (Nat.le_of_eq QL.out),List.take_of_length_le (Nat.le_of_eq RL.out),QV.out,RV.out] at hv
  have hS:=qQ 256 ms hmb
  rw [hml] at hS
  have hdm:=pG 256 (by decide) 33 _ ms hml hmb rfl
  have hml':(aW ms).length=33:=by rw [aH,hml]
  rcases HF.out _ c hv hS hc with ⟨rfl,h1⟩|⟨rfl,h1,h2⟩
  ·have HB:=Lib.hid hB
   have H1:=Lib.hid h1
   clear hB hv hS hmb hmr hdm hml hml' h1
   go_wp2_with (first|((with_reducible refine aS 33 ?_);refine ak rfl 141 _ rfl (w.heap.size) 0 _ 141 (0,0) _ (HB.out.get 0 rfl) rfl .i64 r0 (au _ _) Tryd.underlying141 rfl (N9 iK.out) ?_)|((with_reducible refine aT 2 ?_);refine ah rfl 141 _ _ rfl (w.heap.size+1) _ _ 141 (HB.out.get 1 rfl) rfl rfl (ay _ _ iK.out HLzr.out) (BU iK.out) (av _ _) ?_;intro w7 dV iA kZ;have eX:=Lib.hid (HB.out.put 1 rfl iA dV);clear dV iA kZ))
   (try simp only [Exit.inBlock,Exit.then])
   refine bodyPost_ret (results_cell_row rfl _ _ (w.heap.size+1) 141 _ (0,0) _ rfl (eX.out.get 1 rfl) Tryd.underlying141 rfl (BU iK.out)) rfl ?_
   exact ⟨by rw [IE.out,EW.out,HV.out,if_pos H1.out],eX.out.below⟩
  ·rw [h2] at hdm
   obtain ⟨m0,hm0⟩:∃ x,x=aW ms:=⟨_,rfl⟩
   rw [← hm0] at hB hml'
   have HB:=Lib.hid hB
   have H1:=Lib.hid h1
   have uG:=Lib.hid hml'
   have HM0:Hid (m0=aW (bD 256 33 (N - q))):=Lib.hid (by rw [hm0,← hdm])
   clear hB hv hS hmb hmr hdm hml hml' h1 h2 hm0
   go_wp2_with (first|((with_reducible refine aS 34 ?_);refine ak rfl 141 _ rfl (gm) 0 _ 141 (0,0) _ (HB.out.get 2 rfl) rfl .i64 m0 (au _ _) Tryd.underlying141 rfl (N9 uG.out) ?_)|((with_reducible refine aT 2 ?_);refine ah rfl 141 _ _ rfl (w.heap.size+1) _ _ 141 (HB.out.get 1 rfl) rfl rfl (ay _ _ uG.out HLzr.out) (BU uG.out) (av _ _) ?_;intro w7 dV iA kZ;have eX:=Lib.hid (HB.out.put 1 rfl iA dV);clear dV iA kZ))
   (try simp only [Exit.inBlock,Exit.then])
   refine bodyPost_ret (results_cell_row rfl _ _ (w.heap.size+1) 141 _ (0,0) _ rfl (eX.out.get 1 rfl) Tryd.underlying141 rfl (BU uG.out)) rfl ?_
   exact ⟨by rw [HM0.out,HV.out,if_neg H1.out],eX.out.below⟩
end Go.Proofs.YthdgbgleklkaiaaDoor.Rd
