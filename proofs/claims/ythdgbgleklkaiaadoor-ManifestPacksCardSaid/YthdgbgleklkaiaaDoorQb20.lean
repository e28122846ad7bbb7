/- The document's nought, base, many: The document's Canon, written: The document's less, Reduce. Condition: as each theorem says. -/

import Derived.Test.YthdgbgleklkaiaaDoorQb05
import Derived.Test.YthdgbgleklkaiaaDoorQb17
import Derived.Test.YthdgbgleklkaiaaDoorQb19
open Go.Lib renaming hid→acD
open List renaming replicate→acE,length_set→acG,length_map→acH,getD→acI,getElem?_set_ne→acJ,take_of_length_le→acL
open BitVec renaming ofInt→acF,toNat_or→acP
open Nat renaming zero_le→acK,le_of_eq→acM,mod_eq_of_lt→acO
set_option linter.unusedSimpArgs false
set_option linter.unusedVariables false
set_option maxRecDepth 100000
set_option maxHeartbeats 16000000
namespace Go.Proofs.YthdgbgleklkaiaaDoor.Rd
open Go.RowKit Lm Fp Cu
theorem KG (w:World):Calls Tryd.prog 69 #[] w fun e w'=>∃ zs,e = .returned (.agg (arr .i64 zs))∧mG zs nought∧Below w.heap.size w w':=by
 obtain ⟨ze,iM⟩:∃ zs:List Int,zs=acE 16 0:=⟨_,rfl⟩
 have dN:Hid (∀ w,(zeroValue 98).run Tryd.prog w = .ok (.agg (arr .i64 ze)) w):=acD (by intro w;rw [iM];exact gJ w)
 have dG:Hid (ze.length=16):=acD (by rw [iM];rfl)
 obtain ⟨zp,yI⟩:∃ zs:List Int,zs=acE 64 0:=⟨_,rfl⟩
 have xZ:Hid (∀ w,(zeroValue 100).run Tryd.prog w = .ok (.agg (arr .i64 zp)) w):=acD (by intro w;rw [yI];exact nE w)
 have jB:Hid (zp.length=64):=acD (by rw [yI];rfl)
 have HEz:Hid (El ze 0):=acD (by rw [iM];exact FH)
 have Db:Hid (∀ w,(Instr.build 98 #[]).run Tryd.prog w = .ok (.agg (arr .i64 ze)) w):=acD (by intro w;rw [iM];exact Ec w)
 have bQ:=acD (bM.one w (arr .i64 zp) 100)
 clear iM yI
 go_enter Tryd.func69, Tryd.ntmps69
 go_upto_region 1 with (first|((with_reducible refine aS 0 ?_);refine aj rfl 100 rfl _ (xZ.out _) ?_))
 (try simp only [Act.put,sA,sZ])
 generalize (w.alloc (.cells (arr .i64 zp) 100))=wb at bQ ⊢
 go_wp2_with (first|((with_reducible refine aS 1 ?_);refine wpList_build (by rfl) 98 _ rfl #[] rfl _ (Db.out _) ?_)|((with_reducible show Calls _ 71 #[_] _ _);go_at_call 71; refine (gu 1 _ (by decide)).mono ?_;rintro e w301 ⟨z301,rfl,h301,hb301⟩;have HZ301:=acD h301;have HL301:=acD h301.1;clear h301;have HB301:=acD (bQ.out.kept hb301);clear hb301)|((with_reducible show Calls _ 71 #[_] _ _);go_at_call 71; refine (gu 1 _ (by decide)).mono ?_;rintro e w302 ⟨z302,rfl,h302,hb302⟩;have HZ302:=acD h302;have HL302:=acD h302.1;clear h302;have HB302:=acD (HB301.out.kept hb302);clear hb302)|((with_reducible refine aS 4 ?_);refine wpList_build (by rfl) 98 _ rfl #[] rfl _ (Db.out _) ?_)|((with_reducible refine aS 5 ?_);obtain ⟨v303,Qe⟩:∃ x,x=ze ++ z301 ++ z302 ++ ze:=⟨_,rfl⟩;have HR303:Hid (∀ w,(Instr.build 100 #[(0, .agg (arr .i64 ze)),(1, .agg (arr .i64 z301)),(2, .agg (arr .i64 z302)),(3, .agg (arr .i64 ze))]).run Tryd.prog w = .ok (.agg (arr .i64 v303)) w):=acD (fun w=>by rw [Qe];exact qC _ _ _ _ dG.out HL301.out HL302.out dG.out w);have HL303:Hid (v303.length=64):=acD (by rw [Qe];exact zS dG.out HL301.out HL302.out dG.out);have HV303:=acD Qe;clear Qe;refine wpList_build (by rfl) 100 _ rfl #[(0, .agg (arr .i64 ze)),(1, .agg (arr .i64 z301)),(2, .agg (arr .i64 z302)),(3, .agg (arr .i64 ze))] rfl _ (HR303.out _) ?_)|((with_reducible refine aT 0 (x:=(Operand.tmp 5)) ?_);refine lS rfl rfl HB302 0 rfl rfl rfl (ay _ _ HL303.out jB.out) (lQ HL303.out) (av _ _) ?_;intro w304 HB304))
 (try simp only [Exit.then])
 refine bodyPost_ret (results_cell_row rfl _ _ (w.heap.size) 100 _ (0,0) _ rfl (HB304.out.get 0 rfl) Tryd.underlying100 rfl (lQ HL303.out)) rfl ?_
 exact ⟨_,rfl,⟨_,_,_,_,HV303.out,HEz.out,HZ301.out,HZ302.out,HEz.out⟩,HB304.out.below⟩
theorem Bd (w:World) (hX:Ub w) (hY:Ua w):Calls Tryd.prog 51 #[] w fun e w'=>∃ zs,e = .returned (.agg (arr .i64 zs))∧mG zs base∧Below w.heap.size w w':=by
 obtain ⟨zp,yI⟩:∃ zs:List Int,zs=acE 64 0:=⟨_,rfl⟩
 have xZ:Hid (∀ w,(zeroValue 100).run Tryd.prog w = .ok (.agg (arr .i64 zp)) w):=acD (by intro w;rw [yI];exact nE w)
 have jB:Hid (zp.length=64):=acD (by rw [yI];rfl)
 obtain ⟨xl,hxl⟩:∃ x,x=xL:=⟨_,rfl⟩
 obtain ⟨yl,hyl⟩:∃ x,x=yL:=⟨_,rfl⟩
 have HXe:Hid (El xl bx):=acD (by rw [hxl];exact xL_el)
 have HXl:=acD HXe.out.1
 have HYe:Hid (El yl bY):=acD (by rw [hyl];exact yL_el)
 have HYl:=acD HYe.out.1
 unfold Ub at hX
 unfold Ua at hY
 rw [← hxl] at hX
 rw [← hyl] at hY
 have bQ:=acD (bM.one w (arr .i64 zp) 100)
 have HTX:=acD (bC hX bQ.out.below)
 have HTY:=acD (bC hY bQ.out.below)
 have HGX:Hid (¬ 1 = w.heap.size):=acD (by rw [hxl] at hX;exact Nat.ne_of_lt (zO hX))
 have HGY:Hid (¬ 2 = w.heap.size):=acD (by rw [hyl] at hY;exact Nat.ne_of_lt (zO hY))
 clear yI hX hY hxl hyl
 go_enter Tryd.func51, Tryd.ntmps51
 go_upto_region 1 with (first|((with_reducible refine aS 0 ?_);refine aj rfl 100 rfl _ (xZ.out _) ?_))
 (try simp only [Act.put,sA,sZ])
 generalize (w.alloc (.cells (arr .i64 zp) 100))=wb at bQ HTX HTY ⊢
 have dZ:=acD ((Kept.refl (fun x=>x=w.heap.size) wb).drew)
 have eB:=acD (bQ.out.drew)
 refine wp_region_held_drew (S:=(fun w'=>Kept (fun x=>x=w.heap.size) wb w')) (by kernel_rfl) (dZ.out) (fun hHeld=>?_)
 generalize wb.drew=wd at dZ eB hHeld ⊢
 refine' wpAnyH_take (i:=0) (oi:=(⟨some 1,_,_,_,_,none⟩:Oper)) (v:=_) rfl (by kernel_rfl) (by kernel_rfl) (by kernel_rfl) (fun _ _ _ h=>h) (yieldsIf_load_mid (by rfl) _ _ rfl _ _ rfl (xl.map (Value.int .i64)) _ ?hS305 Tryd.underlying98 rfl (by rw [acH];exact bJ HXl.out)) (by assumption) ?rest305
 case hS305=>(intro w hSw;(try dsimp only at hSw);exact lG HTX.out (hSw) (by first|exact HGX.out|exact HGY.out))
 (try simp only [Act.put,sA,sZ,sS])
 refine' wpAnyH_take (i:=1) (oi:=(⟨some 2,_,_,_,_,none⟩:Oper)) (v:=_) rfl (by kernel_rfl) (by kernel_rfl) (by kernel_rfl) (fun _ _ _ h=>h) (yieldsIf_load_mid (by rfl) _ _ rfl _ _ rfl (yl.map (Value.int .i64)) _ ?hS306 Tryd.underlying98 rfl (by rw [acH];exact bJ HYl.out)) (by assumption) ?rest306
 case hS306=>(intro w hSw;(try dsimp only at hSw);exact lG HTY.out (hSw) (by first|exact HGX.out|exact HGY.out))
 (try simp only [Act.put,sA,sZ,sS])
 refine' wpAnyH_take (i:=3) (oi:=(⟨some 4,_,_,_,_,none⟩:Oper)) (v:=_) rfl (by kernel_rfl) (by kernel_rfl) (by kernel_rfl) (fun _ _ _ h=>h) (yieldsIf_load_mid (by rfl) _ _ rfl _ _ rfl (xl.map (Value.int .i64)) _ ?hS307 Tryd.underlying98 rfl (by rw [acH];exact bJ HXl.out)) (by assumption) ?rest307
 case hS307=>(intro w hSw;(try dsimp only at hSw);exact lG HTX.out (hSw) (by first|exact HGX.out|exact HGY.out))
 (try simp only [Act.put,sA,sZ,sS])
 refine' wpAnyH_take (i:=4) (oi:=(⟨some 5,_,_,_,_,none⟩:Oper)) (v:=_) rfl (by kernel_rfl) (by kernel_rfl) (by kernel_rfl) (fun _ _ _ h=>h) (yieldsIf_load_mid (by rfl) _ _ rfl _ _ rfl (yl.map (Value.int .i64)) _ ?hS308 Tryd.underlying98 rfl (by rw [acH];exact bJ HYl.out)) (by assumption) ?rest308
 case hS308=>(intro w hSw;(try dsimp only at hSw);exact lG HTY.out (hSw) (by first|exact HGX.out|exact HGY.out))
 (try simp only [Act.put,sA,sZ,sS])
 refine wpAnyH_ready (rs:=[2]) (by kernel_rfl) (by simp) ?_
 refine AllReadyH.cons (o:=(⟨some 3,_,_,_,_,none⟩:Oper)) rfl (fun K hK=>?_) AllReadyH.nil
 go_simp
 go_at_call 71
 refine (gu 1 _ (by decide)).mono ?_
 rintro e w309 ⟨z309,rfl,h309,YI⟩
 have HZ309:=acD h309
 have HL309:=acD h309.1
 clear h309
 have HB309:=acD (eB.out.kept YI)
 have HK309:=acD (dZ.out.trans (Kept.of_below YI))
 clear YI
 (try dsimp only)
 refine hK.out _ _ (HK309.out) (fun hHeld=>?_)
 clear hK K
 (try simp only [Act.put,sA,sZ,sS])
 refine wpAnyH_ready (rs:=[5]) (by kernel_rfl) (by simp) ?_
 refine AllReadyH.cons (o:=(⟨some 6,_,_,_,_,none⟩:Oper)) rfl (fun K hK=>?_) AllReadyH.nil
 go_simp
 go_at_call 68
 refine (bL _ _ _ _ _ HXe.out HYe.out).mono ?_
 rintro e w310 ⟨z310,rfl,h310,YH⟩
 have HZ310:=acD h310
 have HL310:=acD h310.1
 clear h310
 have HB310:=acD (HB309.out.kept YH)
 have HK310:=acD (HK309.out.trans (Kept.of_below YH))
 clear YH
 (try dsimp only)
 refine hK.out _ _ (HK310.out) (fun hHeld=>?_)
 clear hK K
 (try simp only [Act.put,sA,sZ,sS])
 obtain ⟨v312,Qd⟩:∃ x,x=xl ++ yl ++ z309 ++ z310:=⟨_,rfl⟩
 have HR312:Hid (∀ w,(Instr.build 100 #[(0, .agg (arr .i64 xl)),(1, .agg (arr .i64 yl)),(2, .agg (arr .i64 z309)),(3, .agg (arr .i64 z310))]).run Tryd.prog w = .ok (.agg (arr .i64 v312)) w):=acD (fun w=>by rw [Qd];exact qC _ _ _ _ HXl.out HYl.out HL309.out HL310.out w)
 have HL312:Hid (v312.length=64):=acD (by rw [Qd];exact zS HXl.out HYl.out HL309.out HL310.out)
 have HV312:=acD Qd
 clear Qd
 refine wpAnyH_take (i:=6) (oi:=(⟨some 7,_,_,_,_,none⟩:Oper)) (v:=(.agg (arr .i64 v312))) rfl (by kernel_rfl) (by kernel_rfl) (by kernel_rfl) (fun _ _ _ h=>h) (Or.inl ⟨by rfl,?hy311⟩) (by assumption) ?rest311
 case hy311=>(intro w hSw;(try dsimp only at hSw);exact rY 100 _ rfl #[(0, .agg (arr .i64 xl)),(1, .agg (arr .i64 yl)),(2, .agg (arr .i64 z309)),(3, .agg (arr .i64 z310))] rfl _ (HR312.out _))
 (try simp only [Act.put,sA,sZ,sS])
 refine wpAnyH_ready (rs:=[7]) (by kernel_rfl) (by simp) ?_
 refine AllReadyH.cons (o:=(⟨none,_,_,_,_,none⟩:Oper)) rfl (fun K hK=>?_) AllReadyH.nil
 refine aH rfl 100 (.tmp 0) (.tmp 7) rfl (w.heap.size) _ _ _ (HB310.out.get 0 rfl) rfl rfl (ay _ _ HL312.out jB.out) (lQ HL312.out) (av _ _) ?_
 intro w313 hb313 XM hz313
 have HB313:=acD (HB310.out.put 0 rfl XM hb313)
 have HK313:=acD (HK310.out.trans XM)
 clear hb313 XM hz313
 refine hK.out _ _ (HK313.out) (fun hHeld=>?_)
 clear hK K
 (try simp only [Act.put])
 refine wpAnyH_done (by kernel_rfl) ?_ _
 have rF:=HB313
 have HWF:=HL312
 have HF0:=HV312
 have HF1:=HXe
 have HF2:=HYe
 have HF3:=HZ309
 have HF4:=HZ310
 (try simp only [Exit.then])
 go_wp2_with fail
 refine bodyPost_ret (results_cell_row rfl _ _ (w.heap.size) 100 _ (0,0) _ rfl (rF.out.get 0 rfl) Tryd.underlying100 rfl (lQ HWF.out)) rfl ?_
 exact ⟨_,rfl,⟨_,_,_,_,HF0.out,HF1.out,HF2.out,HF3.out,HF4.out⟩,rF.out.below⟩
theorem WB (P:Pt) (k n:Nat):ku P k (n+1)=if k / 2 ^ (255 - n) % 2=1 then iy (iy (ku P k n) (ku P k n)) P else iy (ku P k n) (ku P k n):=rfl
theorem Iw (ps:List Int) (P:Pt) (v:Nat) (w:World) (hp:mG ps P) (hT:vW w) :
  Calls Tryd.prog 50 #[.agg (arr .i64 ps), .agg (arr .u8 (aW (bD 256 32 v)))] w fun e w'=>∃ zs,e = .returned (.agg (arr .i64 zs))∧mG zs (ku P v 256)∧Below w.heap.size w w':=by
 obtain ⟨zp,yI⟩:∃ zs:List Int,zs=acE 64 0:=⟨_,rfl⟩
 have xZ:Hid (∀ w,(zeroValue 100).run Tryd.prog w = .ok (.agg (arr .i64 zp)) w):=acD (by intro w;rw [yI];exact nE w)
 have jB:Hid (zp.length=64):=acD (by rw [yI];rfl)
 obtain ⟨es,hes⟩:∃ x,x=aW (bD 256 32 v):=⟨_,rfl⟩
 rw [← hes]
 have HES:=acD hes
 have JF:Hid (es.length=32):=acD (by rw [hes,aJ,aK])
 have HX:=acD hp
 have iK:=acD hp.len
 have HT:=acD hT
 have bQ:=acD (bM.three w (arr .i64 ps) (arr .u8 es) (arr .i64 zp) 100 23 100)
 clear yI hes hp hT
 go_enter Tryd.func50, Tryd.ntmps50
 go_wp2_with (first|((with_reducible refine aS 4 ?_);refine aj rfl 100 rfl _ (xZ.out _) ?_)|((with_reducible show Calls _ _ #[] _ _);go_at_call 69; refine (KG _).mono ?_;rintro e w1 ⟨z1,rfl,h1,hb1⟩;have HZ1:=acD h1;have nC:=acD h1.len;have HB1:=acD (bQ.out.kept hb1);clear h1 hb1)|((with_reducible refine aS 5 ?_);refine aj rfl 100 rfl _ (xZ.out _) ?_;have HB2:=acD (HB1.out.alloc (arr .i64 zp) 100);generalize w1.heap.size=gx at HB2 ⊢)|((with_reducible refine aT 5 ?_);refine lS rfl rfl HB2 3 rfl rfl rfl (ay _ _ nC.out jB.out) (lQ nC.out) (av _ _) ?_;intro w3 HB3))
 go_loopw [6] (fun v' wr=>∃ n:Nat,n≤256∧v' = .int .i64 (255 - (n:Int))∧∃ cs:List Int,mG cs (ku P v n)∧bM w wr [(w.heap.size,arr .i64 ps, 100),(w.heap.size+1,arr .u8 es, 23),(w.heap.size+1+1,arr .i64 zp, 100),(gx,arr .i64 cs, 100)]) (fun v' _=>(intOf v'+1).toNat)
 case atStart=>exact ⟨0,acK _,rfl,_,HZ1.out,HB3.out⟩
 clear bQ HB1 HB2 HB3
 case round =>
 obtain ⟨n,hn,rfl,cs,hcs,hB⟩:=hrel
 by_cases hlt:n < 256
 ·obtain ⟨i,hi⟩:∃ i:Nat,i+n=255:=⟨255 - n,by omega⟩
  have hz:(255:Int) - (n:Int)=(i:Int):=by omega
  have hi2:i < 256:=by omega
  obtain ⟨y,hy,hy2,hbit⟩:=AV es v i HES.out hi2
  have hpn:=WB P v n
  rw [show 255 - n=i by omega] at hpn
  rw [hz]
  have JG:=acD hcs
  have nD:=acD hcs.len
  have HB:=acD hB
  have HI:=acD hi
  have HY:=acD hy
  clear hcs hB hy hz hi
  have q9:0≤(i:Int):=by omega
  rcases (show v / 2 ^ i % 2=0∨v / 2 ^ i % 2=1 by omega) with hb|hb
  ·rw [hb] at hbit
   rw [if_neg (by omega)] at hpn
   have hbit0:bits .and .u8 ((y:Int) / 2 ^ (i % 8)) 1=0:=hbit
   have JX:=acD hpn
   clear hpn hb hbit
   go_wp2_with (first|((with_reducible refine aS 12 ?_);refine lL rfl rfl (HB.out.get 3 rfl) rfl (au _ _) Tryd.underlying100 rfl (Kw nD.out) ?_)|((with_reducible refine aS 13 ?_);refine lL rfl rfl (HB.out.get 3 rfl) rfl (au _ _) Tryd.underlying100 rfl (Kw nD.out) ?_)|((with_reducible show Calls _ _ #[.agg (arr _ cs), .agg (arr _ cs)] _ _);go_at_call 70; refine (tZ _ _ _ _ _ JG.out JG.out (bC HT.out HB.out.below)).mono ?_;rintro e w5 ⟨z5,rfl,h5,hb5⟩;have HZ5:=acD h5;have ND:=acD h5.len;have fM:=acD (HB.out.kept hb5);clear h5 hb5)|((with_reducible refine aT 5 ?_);refine ah rfl 100 _ _ rfl (gx) _ _ 100 (fM.out.get 3 rfl) rfl rfl (ay _ _ ND.out nD.out) (lQ ND.out) (av _ _) ?_;intro w6 hb6 yM K9;have ko:=acD (fM.out.put 3 rfl yM hb6);have q1:=aP (ko.out.get 1 rfl) (i / 8) (by rw [JF.out];omega);rw [HY.out] at q1;clear hb6 yM K9))
   go_roundw
   case rel =>
    have e:=HI.out
    exact ⟨n+1,by omega,by congr 1;omega,_,by rw [JX.out];exact HZ5.out,ko.out⟩
   case measure=>simp [intOf]
  ·rw [if_pos hb] at hpn
   rw [hb] at hbit
   have hbit1:bits .and .u8 ((y:Int) / 2 ^ (i % 8)) 1=1:=hbit
   have JX:=acD hpn
   clear hpn hb hbit
   go_wp2_with (first|((with_reducible refine aS 12 ?_);refine lL rfl rfl (HB.out.get 3 rfl) rfl (au _ _) Tryd.underlying100 rfl (Kw nD.out) ?_)|((with_reducible refine aS 13 ?_);refine lL rfl rfl (HB.out.get 3 rfl) rfl (au _ _) Tryd.underlying100 rfl (Kw nD.out) ?_)|((with_reducible show Calls _ _ #[.agg (arr _ cs), .agg (arr _ cs)] _ _);go_at_call 70; refine (tZ _ _ _ _ _ JG.out JG.out (bC HT.out HB.out.below)).mono ?_;rintro e w5 ⟨z5,rfl,h5,hb5⟩;have HZ5:=acD h5;have ND:=acD h5.len;have fM:=acD (HB.out.kept hb5);clear h5 hb5)|(with_reducible refine aT 5 (x:=(Operand.tmp 14)) ?_);((with_reducible refine aT 5 ?_);refine ah rfl 100 _ _ rfl (gx) _ _ 100 (fM.out.get 3 rfl) rfl rfl (ay _ _ ND.out nD.out) (lQ ND.out) (av _ _) ?_;intro w6 hb6 yM K9;have ko:=acD (fM.out.put 3 rfl yM hb6);have q1:=aP (ko.out.get 1 rfl) (i / 8) (by rw [JF.out];omega);rw [HY.out] at q1;clear hb6 yM K9)|((with_reducible refine aS 25 ?_);refine lL rfl rfl (ko.out.get 3 rfl) rfl (au _ _) Tryd.underlying100 rfl (Kw ND.out) ?_)|((with_reducible refine aS 26 ?_);refine lL rfl rfl (ko.out.get 0 rfl) rfl (au _ _) Tryd.underlying100 rfl (Kw iK.out) ?_)|((with_reducible show Calls _ _ #[.agg (arr _ z5), .agg (arr _ ps)] _ _);go_at_call 70; refine (tZ _ _ _ _ _ HZ5.out HX.out (bC HT.out ko.out.below)).mono ?_;rintro e w7 ⟨z7,rfl,h7,dR⟩;have HZ7:=acD h7;have HL7:=acD h7.len;have eG:=acD (ko.out.kept dR);clear h7 dR)|(with_reducible refine aT 5 (x:=(Operand.tmp 27)) ?_);((with_reducible refine aT 5 ?_);refine lS rfl rfl eG 3 rfl rfl rfl (ay _ _ HL7.out ND.out) (lQ HL7.out) (av _ _) ?_;intro w8 fC))
   go_roundw
   case rel =>
    have e:=HI.out
    exact ⟨n+1,by omega,by congr 1;omega,_,by rw [JX.out];exact HZ7.out,fC.out⟩
   case measure=>simp [intOf]
 ·obtain rfl:n=256:=by omega
  have hz:(255:Int) - ((256:Nat):Int) = -1:=by omega
  rw [hz]
  have JG:=acD hcs
  have nD:=acD hcs.len
  have HB:=acD hB
  clear hcs hB hz
  go_wp2_with (first|((with_reducible refine aS 28 ?_);refine lL rfl rfl (HB.out.get 3 rfl) rfl (au _ _) Tryd.underlying100 rfl (Kw nD.out) ?_)|((with_reducible refine aT 4 ?_);refine lS rfl rfl HB 2 rfl rfl rfl (ay _ _ nD.out jB.out) (lQ nD.out) (av _ _) ?_;intro w8 fC))
  (try simp only [Exit.inBlock,Exit.then])
  refine bodyPost_ret (results_cell_row rfl _ _ (w.heap.size+1+1) 100 _ (0,0) _ rfl (fC.out.get 2 rfl) Tryd.underlying100 rfl (lQ nD.out)) rfl ?_
  exact ⟨_,rfl,JG.out,fC.out.below⟩
end Go.Proofs.YthdgbgleklkaiaaDoor.Rd
namespace Go.Proofs.YthdgbgleklkaiaaDoor.Rd
open Go.RowKit Lm Fp Cu
theorem wT (ps:List Int) (P:Pt) (w:World) (hp:mG ps P):Calls Tryd.prog 49 #[.agg (arr .i64 ps)] w fun e w'=>e = .returned (.agg (arr .u8 (aW (bD 256 32 (lK P)))))∧Below w.heap.size w w':=by
 have HmW:=acD hp.len
 obtain ⟨mx,my,mz,mt,hme,hmx,nX,hmz,hmt⟩:=hp
 have Hmx:=acD hmx
 have HmxL:=acD hmx.1
 have Hmy:=acD nX
 have HmyL:=acD nX.1
 have Hmz:=acD hmz
 have HmzL:=acD hmz.1
 have Hmt:=acD hmt
 have HmtL:=acD hmt.1
 have hmP:=rX .i64 mx my mz mt 16 hmx.1 nX.1 hmz.1 hmt.1
 rw [← hme] at hmP
 have HmP:=acD hmP
 clear hmx nX hmz hmt hme hmP
 obtain ⟨X,hX⟩:∃ x,x=aA P.x (finv P.z):=⟨_,rfl⟩
 obtain ⟨Y,hY⟩:∃ x,x=aA P.y (finv P.z):=⟨_,rfl⟩
 have hYlt:Y < 2 ^ 255:=by rw [hY];exact Nat.lt_of_lt_of_le (dH _ _) (by decide +kernel)
 have hen:=enc_set Y (X % 2) hYlt (by omega)
 obtain ⟨ht1,ht2⟩:=Vl Y hYlt
 have hlb:=Aa X
 have heb:lK P=Y+2 ^ 255 * (X % 2):=by rw [hX,hY];rfl
 rw [heb,← hen]
 have hox:=fun xs w (h:El xs (aA P.x (finv P.z)))=>nR xs _ w h
 have hoy:=fun xs w (h:El xs (aA P.y (finv P.z)))=>nR xs _ w h
 rw [← hX] at hox
 rw [← hY] at hoy
 obtain ⟨bx8,hbx⟩:∃ x,x=aW (bD 256 32 X):=⟨_,rfl⟩
 obtain ⟨by8,hby⟩:∃ x,x=aW (bD 256 32 Y):=⟨_,rfl⟩
 have HBXL:Hid (bx8.length=32):=acD (by rw [hbx,aJ,aK])
 have HBYL:Hid (by8.length=32):=acD (by rw [hby,aJ,aK])
 have g0:bx8.getD 0 0=((X % 256:Nat):Int):=by rw [hbx,bG,hlb]
 have g1:by8.getD 31 0=((Y / 256 ^ 31:Nat):Int):=by rw [hby,bG,ht1]
 have hfin:by8.set 31 ((Y / 256 ^ 31+128 * (X % 2):Nat):Int)=aW ((bD 256 32 Y).set 31 (Y / 256 ^ 31+128 * (X % 2))):=by rw [dw,hby]
 rw [← hbx] at hox
 rw [← hby] at hoy
 rw [← hfin]
 have ha:=abT (X % 256) (Nat.mod_lt _ (by decide))
 rw [Nat.mod_mod_of_dvd X (show 2 ∣ 256 by decide)] at ha
 generalize Y / 256 ^ 31=q at ht2 g1
 have hor:bits .or .u8 (q:Int) (((X % 2:Nat):Int) * 128)=((q+128 * (X % 2):Nat):Int):=by
  have h1:(acF 8 (q:Int)).toNat=q:=by rw [BitVec.ofInt_natCast,BitVec.toNat_ofNat];exact acO (by omega)
  rcases (show X % 2=0∨X % 2=1 by omega) with h|h
  ·rw [h]
   show IntKind.u8.wrap ((acF 8 (q:Int) ||| acF 8 (((0:Nat):Int) * 128)).toNat:Int)=_
   rw [acP,h1,show (acF 8 (((0:Nat):Int) * 128)).toNat=0 from by decide,Nat.or_zero,IntKind.wrap_u8]
   omega
  ·rw [h]
   show IntKind.u8.wrap ((acF 8 (q:Int) ||| acF 8 (((1:Nat):Int) * 128)).toNat:Int)=_
   have h3:q ||| 128=128+q:=by
    rw [Nat.or_comm]
    have:=Nat.two_pow_add_eq_or_of_lt (i:=7) (b:=q) (by omega) 1
    simpa using this.symm
   rw [acP,h1,show (acF 8 (((1:Nat):Int) * 128)).toNat=128 from by decide,h3,IntKind.wrap_u8]
   omega
 obtain ⟨rs,hrs⟩:∃ r,r=by8.set 31 ((q+128 * (X % 2):Nat):Int):=⟨_,rfl⟩
 rw [← hrs]
 have iG:Hid (rs.length=32):=acD (by rw [hrs,acG];exact HBYL.out)
 have CZ:=acD hrs
 have HOX:=acD hox
 have HOY:=acD hoy
 have HOR:=acD hor
 have HA:=acD ha
 have HG0:=acD g0
 have qH:=acD g1
 have HXE:=acD hX
 have HYE:=acD hY
 obtain ⟨ze,iM⟩:∃ zs:List Int,zs=acE 16 0:=⟨_,rfl⟩
 have dN:Hid (∀ w,(zeroValue 98).run Tryd.prog w = .ok (.agg (arr .i64 ze)) w):=acD (by intro w;rw [iM];exact gJ w)
 have dG:Hid (ze.length=16):=acD (by rw [iM];rfl)
 obtain ⟨zn,hzn⟩:∃ zs:List Int,zs=acE 32 0:=⟨_,rfl⟩
 have dA:Hid (∀ w,(zeroValue 23).run Tryd.prog w = .ok (.agg (arr .u8 zn)) w):=acD (by intro w;rw [hzn];exact zero_num w)
 have cK:Hid (zn.length=32):=acD (by rw [hzn];rfl)
 have bQ:=acD (bM.two w (arr .i64 ps) (arr .u8 zn) 100 23)
 clear iM hzn hen ht1 hlb heb hox hoy hbx hby hfin hor hrs ha g0 g1 hX hY hYlt
 go_enter Tryd.func49, Tryd.ntmps49
 go_upto_region 1 with (first|((with_reducible refine aS 2 ?_);refine aj rfl 23 rfl _ (dA.out _) ?_))
 (try simp only [World.size_alloc,Act.put,sA,sZ,sS])
 generalize ((w.alloc (.cells (arr .i64 ps) 100)).alloc (.cells (arr .u8 zn) 23))=wb at bQ ⊢
 go_upto_region 2 with (first|((with_reducible refine aS 7 ?_);refine ak rfl 98 _ rfl (w.heap.size) (32) _ 100 (0,0) _ (bQ.out.get 0 rfl) rfl .i64 mz (HmP.out.2.2.1) Tryd.underlying98 rfl (bJ HmzL.out) ?_)|((with_reducible show Calls _ 66 #[.agg _] _ _);go_at_call 66; refine (Fq _ _ _ Hmz.out).mono ?_;rintro e w501 ⟨z501,rfl,h501,hb501⟩;have HZ501:=acD h501;have QO:=acD h501.1;clear h501;have HB501:=acD (bQ.out.kept hb501);clear hb501)|((with_reducible refine aS 3 ?_);refine lA rfl rfl (dN.out _) HB501 ?_;intro g502 w502 Q9)|((with_reducible refine aT 3 (x:=(Operand.tmp 8)) ?_);refine lS rfl rfl Q9 2 rfl rfl rfl (ay _ _ QO.out dG.out) (cZ QO.out) (av _ _) ?_;intro w503 HB503))
 go_upto_region 3 with (first|((with_reducible refine aS 10 ?_);refine ak rfl 98 _ rfl (w.heap.size) (0) _ 100 (0,0) _ (HB503.out.get 0 rfl) rfl .i64 mx (HmP.out.1) Tryd.underlying98 rfl (bJ HmxL.out) ?_)|((with_reducible refine aS 11 ?_);refine lL rfl rfl (HB503.out.get 2 rfl) rfl (au _ _) Tryd.underlying98 rfl (bJ QO.out) ?_)|((with_reducible show Calls _ 68 #[.agg _, .agg _] _ _);go_at_call 68; refine (bL _ _ _ _ _ Hmx.out HZ501.out).mono ?_;rintro e w504 ⟨z504,rfl,h504,hb504⟩;have HZ504:=acD h504;have HL504:=acD h504.1;clear h504;have HB504:=acD (HB503.out.kept hb504);clear hb504)|((with_reducible show Calls _ 67 #[.agg _] _ _);go_at_call 67; refine lC (HOX.out _ _ (by rw [HXE.out];exact HZ504.out)) HB504 ?_;intro w505 HB505)|((with_reducible refine aS 4 ?_);refine lA rfl rfl (dA.out _) HB505 ?_;intro g506 w506 Q8)|((with_reducible refine aT 4 (x:=(Operand.tmp 13)) ?_);refine lS rfl rfl Q8 3 rfl rfl rfl (ay _ _ HBXL.out cK.out) (bE HBXL.out) (av _ _) ?_;intro w507 HB507))
 go_upto_region 4 with (first|((with_reducible refine aS 15 ?_);refine ak rfl 98 _ rfl (w.heap.size) (16) _ 100 (0,0) _ (HB507.out.get 0 rfl) rfl .i64 my (HmP.out.2.1) Tryd.underlying98 rfl (bJ HmyL.out) ?_)|((with_reducible refine aS 16 ?_);refine lL rfl rfl (HB507.out.get 2 rfl) rfl (au _ _) Tryd.underlying98 rfl (bJ QO.out) ?_)|((with_reducible show Calls _ 68 #[.agg _, .agg _] _ _);go_at_call 68; refine (bL _ _ _ _ _ Hmy.out HZ501.out).mono ?_;rintro e w508 ⟨z508,rfl,h508,hb508⟩;have HZ508:=acD h508;have HL508:=acD h508.1;clear h508;have HB508:=acD (HB507.out.kept hb508);clear hb508)|((with_reducible show Calls _ 67 #[.agg _] _ _);go_at_call 67; refine lC (HOY.out _ _ (by rw [HYE.out];exact HZ508.out)) HB508 ?_;intro w509 HB509)|((with_reducible refine aS 5 ?_);refine lA rfl rfl (dA.out _) HB509 ?_;intro g510 w510 Q7)|((with_reducible refine aT 5 (x:=(Operand.tmp 18)) ?_);refine lS rfl rfl Q7 4 rfl rfl rfl (ay _ _ HBYL.out cK.out) (bE HBYL.out) (av _ _) ?_;intro w511 Q6))
 have q0:=aP (Q6.out.get 3 rfl) 0 (by rw [HBXL.out];decide)
 have q1:=aP (Q6.out.get 4 rfl) 31 (by rw [HBYL.out];decide)
 have q2:=aC (Q6.out.get 4 rfl) 31
 rw [HG0.out] at q0
 rw [qH.out] at q1
 have hb1:=Q6.out.cell 4 rfl 31 (.int .u8 (bits .or .u8 (q:Int) (bits .and .u8 ((X % 256:Nat):Int) 1 * 128)))
 have e2:(arr .u8 by8).setIfInBounds 31 (.int .u8 (bits .or .u8 (q:Int) (bits .and .u8 ((X % 256:Nat):Int) 1 * 128)))=arr .u8 rs:=by rw [HA.out,HOR.out,bf,CZ.out]
 have kW:=acD (hb1.cast (l':=[(w.heap.size,arr .i64 ps, 100),(w.heap.size+1,arr .u8 zn, 23),(g502,(arr .i64 z501), 98),(g506,(arr .u8 bx8), 23),(g510,arr .u8 rs, 23)]) (by rw [← e2];rfl))
 have hx2:bits .and .u8 ((X % 256:Nat):Int) 1=0∨bits .and .u8 ((X % 256:Nat):Int) 1=1:=by rw [HA.out];omega
 generalize X % 256=xq at q0 hx2 kW
 clear hb1 e2
 go_wp2_with (first|((with_reducible refine aS 27 ?_);refine lL rfl rfl (kW.out.get 4 rfl) rfl (au _ _) Tryd.underlying23 rfl (bU iG.out) ?_)|((with_reducible refine aT 2 ?_);refine lS rfl rfl kW 1 rfl rfl rfl (ay _ _ iG.out cK.out) (bE iG.out) (av _ _) ?_;intro Us OM))
 (try simp only [Exit.then])
 refine bodyPost_ret (results_cell_row rfl _ _ (w.heap.size+1) 23 _ (0,0) _ rfl (OM.out.get 1 rfl) Tryd.underlying23 rfl (bE iG.out)) rfl ?_
 exact ⟨by rw [CZ.out],OM.out.below⟩
end Go.Proofs.YthdgbgleklkaiaaDoor.Rd
namespace Go.Proofs.YthdgbgleklkaiaaDoor.Rd
open Go.RowKit Lm Sc
theorem OQ (w:World):(zeroValue 141).run Tryd.prog w = .ok (.agg (arr .i64 (acE 33 0))) w:=by kernel_rfl
theorem O6:(Tryd.prog.info? 141).map (·.size)=some 33:=by kernel_rfl
theorem Dk {xs:List Int} (h:xs.length=33):(Tryd.prog.info? 141).map (·.size)=some (arr .i64 xs).size:=by rw [aD,h];exact O6
theorem O0 {xs:List Int} (h:xs.length=33):(Tryd.prog.info? 141).map (·.size)=some xs.length:=by rw [h];exact O6
def qL:List Int:=[0xed,0xd3,0xf5,0x5c,0x1a,0x63,0x12,0x58,0xd6,0x9c,0xf7,0xa2,0xde,0xf9,0xde,0x14,0,0,0,0,0,0,0,0,0,0,0,0,0,0,0,0x10]
theorem qL_eq:qL=aW (bD 256 32 q):=by decide +kernel
def ni (w:World):Prop:=∀ t,t < 32→w.cell? ⟨6, t,none⟩=some (.int .i64 (qL.getD t 0))
theorem ni.below {a b:World} (h:ni a) (k:Below a.heap.size a b):ni b:=fun t ht=>(Kept.of_below k (T:=fun _=>False)).l9 (h t ht) id
theorem q33 (k:Nat) (h:k < 33):(bD 256 33 q).getD k 0=if k < 32 then (bD 256 32 q).getD k 0 else 0:=by
 rw [dz _ _ _ _ h]
 split
 ·rename_i h2;rw [dz _ _ _ _ h2]
 ·obtain rfl:k=32:=by omega
  decide +kernel
theorem val33:val 256 (bD 256 33 q)=q:=by decide +kernel
theorem qL_get (k:Nat) (h:k < 32):qL.getD k 0=(((bD 256 33 q).getD k 0:Nat):Int):=by rw [q33 k (by omega),if_pos h,qL_eq,bG]
theorem sub33 (N S c:Nat) (h:S+q=N+256 ^ 33 * c) (hS:S < 256 ^ 33) (_hN:N < 256 ^ 33) (hc:c≤1):(c=1∧N < q)∨(c=0∧¬ N < q∧S=N - q):=by
 have hq:q < 256 ^ 33:=by decide +kernel
 rcases (show c=0∨c=1 by omega) with rfl|rfl
 ·right;omega
 ·left;omega
theorem WQ (N:Nat) (w:World) (hN:N < 256 ^ 33) (hT:ni w) :
  Calls Tryd.prog 96 #[.agg (arr .i64 (aW (bD 256 33 N)))] w fun e w'=>e = .returned (.agg (arr .i64 (aW (bD 256 33 (if N < q then N else N - q)))))∧Below w.heap.size w w':=by
 obtain ⟨rs,hrs⟩:∃ r,r=bD 256 33 N:=⟨_,rfl⟩
 have rl:rs.length=33:=by rw [hrs,aK]
 have rb:∀ x∈rs,x < 256:=by rw [hrs];exact ig 256 (by decide) _ _
 have rv:val 256 rs=N:=by rw [hrs,fA,acO hN]
 obtain ⟨qs,hqs⟩:∃ r,r=bD 256 33 q:=⟨_,rfl⟩
 have ql:qs.length=33:=by rw [hqs,aK]
 have qb:∀ x∈qs,x < 256:=by rw [hqs];exact ig 256 (by decide) _ _
 have qv:val 256 qs=q:=by rw [hqs];exact val33
 have qg:∀ k,k < 32→qL.getD k 0=((qs.getD k 0:Nat):Int):=fun k h=>by rw [hqs];exact qL_get k h
 have q32:qs.getD 32 0=0:=by rw [hqs,q33 32 (by decide),if_neg (by decide)]
 have hfin:=fun S c h1 h2 h3=>sub33 N S c h1 h2 hN h3
 rw [← hrs]
 obtain ⟨V,hV⟩:∃ V,V=if N < q then N else N - q:=⟨_,rfl⟩
 rw [← hV]
 have HV:=acD hV
 have RL:=acD rl
 have RB:=acD rb
 have RV:=acD rv
 have QL:=acD ql
 have QB:=acD qb
 have QV:=acD qv
 have QG:=acD qg
 have Q32:=acD q32
 have HF:=acD hfin
 have HT:=acD hT
 have CZ:=acD hrs
 obtain ⟨zr,hzr⟩:∃ zs:List Int,zs=acE 33 0:=⟨_,rfl⟩
 have HZzr:Hid (∀ w,(zeroValue 141).run Tryd.prog w = .ok (.agg (arr .i64 zr)) w):=acD (by intro w;rw [hzr];exact OQ w)
 have HLzr:Hid (zr.length=33):=acD (by rw [hzr];rfl)
 obtain ⟨r0,hr0⟩:∃ x,x=aW rs:=⟨_,rfl⟩
 have FY:Hid (r0=aW rs):=acD hr0
 have iG:Hid (r0.length=33):=acD (by rw [hr0,aJ,rl])
 rw [← hr0]
 have HSa:=acD (bM.two w (arr .i64 r0) (arr .i64 zr) 141 141)
 clear hzr rl rb rv ql qb qv qg q32 hfin hT hrs hqs hr0 hV
 go_enter Tryd.func96, Tryd.ntmps96
 go_upto_region 1 with (first|((with_reducible refine aS 2 ?_);refine aj rfl 141 rfl _ (HZzr.out _) ?_))
 (try simp only [World.size_alloc,Act.put,sA,sZ,sS])
 generalize ((w.alloc (.cells (arr .i64 r0) 141)).alloc (.cells (arr .i64 zr) 141))=wb at HSa ⊢
 go_wp2_with (first|((with_reducible refine aS 7 ?_);refine lL rfl rfl (HSa.out.get 0 rfl) rfl (au _ _) Tryd.underlying141 rfl (O0 iG.out) ?_)|((with_reducible refine aS 3 ?_);refine lA rfl rfl (HZzr.out _) HSa ?_;intro gm wm bQ)|((with_reducible refine aT 3 ?_);refine lS rfl rfl bQ 2 rfl rfl rfl (ay _ _ iG.out HLzr.out) (Dk iG.out) (av _ _) ?_;intro w1 HB1))
 go_loopw [4,5,6] (fun cv kv xv wr=>∃ (k c:Nat) (ms:List Nat),k≤33∧kv = .int .i64 k∧cv = .int .i64 c∧c≤1∧ms.length=33∧(∀ x∈ms,x < 256)∧(∀ j,k≤j→ms.getD j 0=rs.getD j 0)∧val 256 (ms.take k)+val 256 (qs.take k)=val 256 (rs.take k)+256 ^ k * c∧bM w wr [(w.heap.size,arr .i64 r0, 141),(w.heap.size+1,arr .i64 zr, 141),(gm,arr .i64 (aW ms), 141)]) (fun _ kv _ _=>33 - (intOf kv).toNat)
 case atStart=>exact ⟨0,0,rs,acK _,rfl,rfl,acK _,RL.out,RB.out,(fun _ _=>rfl),by simp [val],by rw [← FY.out];exact HB1.out⟩
 clear HSa bQ HB1
 case round =>
 obtain ⟨k,c,ms,hk,rfl,rfl,hc,hml,hmb,hmr,hv,hB⟩:=hrel
 by_cases hlt:k < 33
 ·have q0:=aP (hB.get 0 rfl) k (by rw [iG.out];exact hlt)
  have q2:=aP (hB.get 2 rfl) k (by rw [aJ,hml];exact hlt)
  have q3:=aC (hB.get 2 rfl) k
  rw [FY.out,bG] at q0
  have r1:=dx RB.out (by decide) k
  have y1:=dx QB.out (by decide) k
  have st:=fun s c' hs=>Vq 256 k _ _ _ (rs.getD k 0) (qs.getD k 0) c s c' hv hs
  have vm:=fun s=>kL 256 ms k s (by omega)
  rw [← bS 256 qs k (by rw [QL.out];exact hlt),← bS 256 rs k (by rw [RL.out];exact hlt)] at st
  have Ld:k=32→qs.getD k 0=0:=fun e=>by rw [e];exact Q32.out
  have hqt:k < 32→wr.cell? ⟨6, k,none⟩=some (.int .i64 ((qs.getD k 0:Nat):Int)):=fun e=>by
   have:=HT.out.below hB.below k e
   rwa [QG.out k e] at this
  generalize rs.getD k 0=r at q0 r1 st
  generalize qs.getD k 0=y at y1 st Ld hqt
  by_cases h32:k < 32
  ·by_cases hbr:r < y+c
   ·skip
    have qt:=hqt h32
    have hneg:(r:Int) - (c:Int) - (y:Int) < 0:=by omega
    have hst:=st (r+256 - c - y) 1 (by omega)
    rw [← vm] at hst
    have hb1:=hB.cell 2 rfl k (.int .i64 ((r:Int) - (c:Int) - (y:Int)+256))
    have e2:(arr .i64 (aW ms)).setIfInBounds k (.int .i64 ((r:Int) - (c:Int) - (y:Int)+256))=arr .i64 (aW (ms.set k (r+256 - c - y))):=by rw [show ((r:Int) - (c:Int) - (y:Int)+256)=(((r+256 - c - y):Nat):Int) by omega,bf,← dw]
    have HB1:=acD (hb1.cast (l':=[(w.heap.size,arr .i64 r0, 141),(w.heap.size+1,arr .i64 zr, 141),(gm,arr .i64 (aW (ms.set k (r+256 - c - y))), 141)]) (by rw [← e2];rfl))
    have HST:=acD hst
    have tH:Hid ((ms.set k (r+256 - c - y)).length=33):=acD (by rw [acG,hml])
    have HMB:Hid (∀ x∈ms.set k (r+256 - c - y),x < 256):=acD (jI hmb _ _ (by omega))
    have HMR:Hid (∀ j,k+1≤j→(ms.set k (r+256 - c - y)).getD j 0=rs.getD j 0):=acD (by intro j hj;have e:=hmr j (by omega);simp only [acI] at e ⊢; rw [acJ (by omega)];exact e)
    clear hb1 e2 hst st vm hB hml hmb hmr hv hqt Ld
    go_wp2_with fail
    go_roundw
    case rel=>exact ⟨k+1,1,_,by omega,by go_num,rfl,by omega,tH.out,HMB.out,HMR.out,HST.out,HB1.out⟩
    case measure=>simp [intOf];omega
   ·skip
    have qt:=hqt h32
    have hneg:¬ (r:Int) - (c:Int) - (y:Int) < 0:=by omega
    have hst:=st (r - c - y) 0 (by omega)
    rw [← vm] at hst
    have hb1:=hB.cell 2 rfl k (.int .i64 ((r:Int) - (c:Int) - (y:Int)))
    have e2:(arr .i64 (aW ms)).setIfInBounds k (.int .i64 ((r:Int) - (c:Int) - (y:Int)))=arr .i64 (aW (ms.set k (r - c - y))):=by rw [show ((r:Int) - (c:Int) - (y:Int))=(((r - c - y):Nat):Int) by omega,bf,← dw]
    have HB1:=acD (hb1.cast (l':=[(w.heap.size,arr .i64 r0, 141),(w.heap.size+1,arr .i64 zr, 141),(gm,arr .i64 (aW (ms.set k (r - c - y))), 141)]) (by rw [← e2];rfl))
    have HST:=acD hst
    have tH:Hid ((ms.set k (r - c - y)).length=33):=acD (by rw [acG,hml])
    have HMB:Hid (∀ x∈ms.set k (r - c - y),x < 256):=acD (jI hmb _ _ (by omega))
    have HMR:Hid (∀ j,k+1≤j→(ms.set k (r - c - y)).getD j 0=rs.getD j 0):=acD (by intro j hj;have e:=hmr j (by omega);simp only [acI] at e ⊢; rw [acJ (by omega)];exact e)
    clear hb1 e2 hst st vm hB hml hmb hmr hv hqt Ld
    go_wp2_with fail
    go_roundw
    case rel=>exact ⟨k+1,0,_,by omega,by go_num,rfl,by omega,tH.out,HMB.out,HMR.out,HST.out,HB1.out⟩
    case measure=>simp [intOf];omega
  ·by_cases hbr:r < y+c
   ·skip
    have y0:=Ld (by omega)
    have hneg:(r:Int) - (c:Int) < 0:=by omega
    have hst:=st (r+256 - c - y) 1 (by omega)
    rw [← vm] at hst
    have hb1:=hB.cell 2 rfl k (.int .i64 ((r:Int) - (c:Int)+256))
    have e2:(arr .i64 (aW ms)).setIfInBounds k (.int .i64 ((r:Int) - (c:Int)+256))=arr .i64 (aW (ms.set k (r+256 - c - y))):=by rw [show ((r:Int) - (c:Int)+256)=(((r+256 - c - y):Nat):Int) by omega,bf,← dw]
    have HB1:=acD (hb1.cast (l':=[(w.heap.size,arr .i64 r0, 141),(w.heap.size+1,arr .i64 zr, 141),(gm,arr .i64 (aW (ms.set k (r+256 - c - y))), 141)]) (by rw [← e2];rfl))
    have HST:=acD hst
    have tH:Hid ((ms.set k (r+256 - c - y)).length=33):=acD (by rw [acG,hml])
    have HMB:Hid (∀ x∈ms.set k (r+256 - c - y),x < 256):=acD (jI hmb _ _ (by omega))
    have HMR:Hid (∀ j,k+1≤j→(ms.set k (r+256 - c - y)).getD j 0=rs.getD j 0):=acD (by intro j hj;have e:=hmr j (by omega);simp only [acI] at e ⊢; rw [acJ (by omega)];exact e)
    clear hb1 e2 hst st vm hB hml hmb hmr hv hqt Ld
    go_wp2_with fail
    go_roundw
    case rel=>exact ⟨k+1,1,_,by omega,by go_num,rfl,by omega,tH.out,HMB.out,HMR.out,HST.out,HB1.out⟩
    case measure=>simp [intOf];omega
   ·skip
    have y0:=Ld (by omega)
    have hneg:¬ (r:Int) - (c:Int) < 0:=by omega
    have hst:=st (r - c - y) 0 (by omega)
    rw [← vm] at hst
    have hb1:=hB.cell 2 rfl k (.int .i64 ((r:Int) - (c:Int)))
    have e2:(arr .i64 (aW ms)).setIfInBounds k (.int .i64 ((r:Int) - (c:Int)))=arr .i64 (aW (ms.set k (r - c - y))):=by rw [show ((r:Int) - (c:Int))=(((r - c - y):Nat):Int) by omega,bf,← dw]
    have HB1:=acD (hb1.cast (l':=[(w.heap.size,arr .i64 r0, 141),(w.heap.size+1,arr .i64 zr, 141),(gm,arr .i64 (aW (ms.set k (r - c - y))), 141)]) (by rw [← e2];rfl))
    have HST:=acD hst
    have tH:Hid ((ms.set k (r - c - y)).length=33):=acD (by rw [acG,hml])
    have HMB:Hid (∀ x∈ms.set k (r - c - y),x < 256):=acD (jI hmb _ _ (by omega))
    have HMR:Hid (∀ j,k+1≤j→(ms.set k (r - c - y)).getD j 0=rs.getD j 0):=acD (by intro j hj;have e:=hmr j (by omega);simp only [acI] at e ⊢; rw [acJ (by omega)];exact e)
    clear hb1 e2 hst st vm hB hml hmb hmr hv hqt Ld
    go_wp2_with fail
    go_roundw
    case rel=>exact ⟨k+1,0,_,by omega,by go_num,rfl,by omega,tH.out,HMB.out,HMR.out,HST.out,HB1.out⟩
    case measure=>simp [intOf];omega
 ·obtain rfl:k=33:=by omega
  rw [acL (acM hml),acL (acM QL.out),acL (acM RL.out),QV.out,RV.out] at hv
  have hS:=rO 256 ms hmb
  rw [hml] at hS
  have hdm:=qp 256 (by decide) 33 _ ms hml hmb rfl
  have hml':(aW ms).length=33:=by rw [aJ,hml]
  rcases HF.out _ c hv hS hc with ⟨rfl,h1⟩|⟨rfl,h1,h2⟩
  ·have HB:=acD hB
   have H1:=acD h1
   clear hB hv hS hmb hmr hdm hml hml' h1
   go_wp2_with (first|((with_reducible refine aS 33 ?_);refine lL rfl rfl (HB.out.get 0 rfl) rfl (au _ _) Tryd.underlying141 rfl (O0 iG.out) ?_)|((with_reducible refine aT 2 ?_);refine lS rfl rfl HB 1 rfl rfl rfl (ay _ _ iG.out HLzr.out) (Dk iG.out) (av _ _) ?_;intro w7 eG))
   (try simp only [Exit.inBlock,Exit.then])
   refine bodyPost_ret (results_cell_row rfl _ _ (w.heap.size+1) 141 _ (0,0) _ rfl (eG.out.get 1 rfl) Tryd.underlying141 rfl (Dk iG.out)) rfl ?_
   exact ⟨by rw [FY.out,CZ.out,HV.out,if_pos H1.out],eG.out.below⟩
  ·rw [h2] at hdm
   obtain ⟨m0,hm0⟩:∃ x,x=aW ms:=⟨_,rfl⟩
   rw [← hm0] at hB hml'
   have HB:=acD hB
   have H1:=acD h1
   have tH:=acD hml'
   have HM0:Hid (m0=aW (bD 256 33 (N - q))):=acD (by rw [hm0,← hdm])
   clear hB hv hS hmb hmr hdm hml hml' h1 h2 hm0
   go_wp2_with (first|((with_reducible refine aS 34 ?_);refine lL rfl rfl (HB.out.get 2 rfl) rfl (au _ _) Tryd.underlying141 rfl (O0 tH.out) ?_)|((with_reducible refine aT 2 ?_);refine lS rfl rfl HB 1 rfl rfl rfl (ay _ _ tH.out HLzr.out) (Dk tH.out) (av _ _) ?_;intro w7 eG))
   (try simp only [Exit.inBlock,Exit.then])
   refine bodyPost_ret (results_cell_row rfl _ _ (w.heap.size+1) 141 _ (0,0) _ rfl (eG.out.get 1 rfl) Tryd.underlying141 rfl (Dk tH.out)) rfl ?_
   exact ⟨by rw [HM0.out,HV.out,if_neg H1.out],eG.out.below⟩
end Go.Proofs.YthdgbgleklkaiaaDoor.Rd
