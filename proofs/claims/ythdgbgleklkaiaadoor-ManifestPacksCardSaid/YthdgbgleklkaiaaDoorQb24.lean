/- The document's read, May. Condition: as each theorem says. -/

import Derived.Test.YthdgbgleklkaiaaDoorQb20
open Go.Lib renaming hid→acD
open List renaming length_map→acE,map_cons→acF,map_nil→acG,replicate→acH,nil_append→acN,append_nil→acO,append_assoc→acP,cons_append→acQ
open BitVec renaming ofInt→acI
open Nat renaming mod_lt→acJ,mod_eq_of_lt→acK
set_option linter.unusedSimpArgs false
set_option linter.unusedVariables false
set_option maxRecDepth 100000
set_option maxHeartbeats 16000000
namespace Go.Proofs.YthdgbgleklkaiaaDoor.Rd
open Go.RowKit Lm Fp Cu
theorem Nc (w:World):(Instr.build 23 #[]).run Tryd.prog w = .ok (.agg (arr .u8 (acH 32 0))) w:=by kernel_rfl
theorem and127 (t:Nat) (h:t < 256):bits .and .u8 (t:Int) 127=((t % 128:Nat):Int):=by
 have e:t &&& 127=t % 128:=Nat.and_two_pow_sub_one_eq_mod t 7
 have h1:(acI 8 (t:Int)).toNat=t:=by rw [BitVec.ofInt_natCast,BitVec.toNat_ofNat];exact acK (by omega)
 have h2:(acI 8 (127:Int)).toNat=127:=by decide
 show IntKind.u8.wrap ((acI 8 (t:Int) &&& acI 8 (127:Int)).toNat:Int)=_
 rw [BitVec.toNat_and,h1,h2,e,IntKind.wrap_u8]
 omega
theorem D5 {a b:Nat} (ha:a < 256 ^ 32) (hb:b < 256 ^ 32):(aW (bD 256 32 a) == aW (bD 256 32 b))=decide (a=b):=by
 by_cases e:a=b
 ·subst e;simp
 ·rw [decide_eq_false e,beq_eq_false_iff_ne]
  intro h
  have h3:bD 256 32 a=bD 256 32 b:=by
   have:=congrArg (List.map Int.toNat) h
   have e:∀ l:List Nat,(aW l).map Int.toNat=l:=fun l=>by rw [aW,List.map_map];exact List.map_id l
   rwa [e,e] at this
  have h4:=congrArg (val 256) h3
  rw [zh a ha,zh b hb] at h4
  exact e h4
theorem UH:(acH 32 0:List Int)=aW (bD 256 32 0):=by decide +kernel
theorem uj (v:Nat) (w:World) (hv:v < 2 ^ 256) (SS:vW w) (hTi:Uc w) :
  Calls Tryd.prog 60 #[.agg (arr .u8 (aW (bD 256 32 v)))] w fun e w'=>∃ zs,e = .returned (.tuple #[.agg (arr .i64 zs), .bool (iU v).isSome])∧zs.length=64∧(∀ P,iU v=some P→mG zs P)∧Below w.heap.size w w':=by
 obtain ⟨y,hy⟩:∃ y,y=v % 2 ^ 255:=⟨_,rfl⟩
 obtain ⟨b,hb⟩:∃ b,b=v / 2 ^ 255:=⟨_,rfl⟩
 have hy2:y < 2 ^ 255:=by rw [hy];exact acJ _ (by decide)
 have hy32:y < 256 ^ 32:=Nat.lt_of_lt_of_le hy2 (by decide)
 obtain ⟨t1,t2⟩:=pE v hv
 have hds:=Qt v hv
 have htb:=top_bit v
 have hb2:b≤1:=by
  rw [hb]
  have:v / 2 ^ 255 < 2:=Nat.div_lt_of_lt_mul (by rw [← Nat.pow_succ];exact hv)
  omega
 rw [← hy] at hds
 rw [← hb] at htb
 generalize v / 256 ^ 31=t at t1 t2 hds htb
 have hbt:(t:Int) / 128=(b:Int):=by omega
 have ha:=and127 t t2
 have hE1:=AJ v
 have hE2:=xX v
 have hE3:=xW v
 have hE4:=fun r h1 h2 h3 h4=>MQ v r hv h1 h2 h3 h4
 rw [← hy] at hE1 hE2 hE3 hE4
 rw [← hb] at hE3 hE4
 obtain ⟨ev,hev⟩:∃ e,e=iU v:=⟨_,rfl⟩
 rw [← hev] at hE1 hE2 hE3 hE4 ⊢
 obtain ⟨ns,hns⟩:∃ x,x=aW (bD 256 32 v):=⟨_,rfl⟩
 have yt:Hid (ns.length=32):=acD (by rw [hns,aJ,aK])
 have MJ:ns.getD 31 0=(t:Int):=by rw [hns,bG,t1]
 have hn2:ns.set 31 ((t % 128:Nat):Int)=aW (bD 256 32 y):=by rw [hns,← dw,hds]
 rw [← hns]
 have hin:=fun w=>KY y w hy32
 have hca:=fun w=>TN y w hy32
 have hne:(!(aW (bD 256 32 (y % p)) == aW (bD 256 32 y)))=decide (¬ y < p):=by
  rw [D5 (Nat.lt_trans (acJ _ zW) KE) hy32]
  by_cases h:y < p
  ·rw [acK h];simp [h]
  ·have:¬ y % p=y:=by have:=acJ y zW;omega
   simp [this,h]
 have HY2:=acD hy2
 obtain ⟨ms,hms⟩:∃ x,x=aW (bD 256 32 y):=⟨_,rfl⟩
 have tH:Hid (ms.length=32):=acD (by rw [hms,aJ,aK])
 obtain ⟨ks,hks⟩:∃ x,x=aW (bD 256 32 (y % p)):=⟨_,rfl⟩
 have kU:Hid (ks.length=32):=acD (by rw [hks,aJ,aK])
 rw [← hms] at hin hca hn2 hne
 rw [← hks] at hca hne
 have HIN:=acD hin
 have HCA:=acD hca
 have HNE:=acD hne
 have HA:=acD ha
 have HBT:=acD hbt
 have HE1:=acD hE1
 have HE2:=acD hE2
 have HE3:=acD hE3
 have HE4:=acD hE4
 have HB2:=acD hb2
 obtain ⟨dl,hdl⟩:∃ x,x=dL:=⟨_,rfl⟩
 have HD:Hid (El dl dd):=acD (by rw [hdl];exact dL_el)
 have yV:=acD HD.out.1
 have HTI:=acD hTi
 unfold vW at SS
 rw [← hdl] at SS
 have HTD:=acD SS
 obtain ⟨ze,iM⟩:∃ zs:List Int,zs=acH 16 0:=⟨_,rfl⟩
 have dN:Hid (∀ w,(zeroValue 98).run Tryd.prog w = .ok (.agg (arr .i64 ze)) w):=acD (by intro w;rw [iM];exact gJ w)
 have dG:Hid (ze.length=16):=acD (by rw [iM];rfl)
 obtain ⟨zn,hzn⟩:∃ zs:List Int,zs=acH 32 0:=⟨_,rfl⟩
 have dA:Hid (∀ w,(zeroValue 23).run Tryd.prog w = .ok (.agg (arr .u8 zn)) w):=acD (by intro w;rw [hzn];exact zero_num w)
 have cK:Hid (zn.length=32):=acD (by rw [hzn];rfl)
 obtain ⟨zp,yI⟩:∃ zs:List Int,zs=acH 64 0:=⟨_,rfl⟩
 have xZ:Hid (∀ w,(zeroValue 100).run Tryd.prog w = .ok (.agg (arr .i64 zp)) w):=acD (by intro w;rw [yI];exact nE w)
 have jB:Hid (zp.length=64):=acD (by rw [yI];rfl)
 have HEz:Hid (El ze 0):=acD (by rw [iM];exact FH)
 have HNz:Hid (zn=aW (bD 256 32 0)):=acD (by rw [hzn];exact UH)
 have Db:Hid (∀ w,(Instr.build 98 #[]).run Tryd.prog w = .ok (.agg (arr .i64 ze)) w):=acD (by intro w;rw [iM];exact Ec w)
 have HBP:Hid (∀ w,(Instr.build 100 #[]).run Tryd.prog w = .ok (.agg (arr .i64 zp)) w):=acD (by intro w;rw [yI];exact TU w)
 have HBN:Hid (∀ w,(Instr.build 23 #[]).run Tryd.prog w = .ok (.agg (arr .u8 zn)) w):=acD (by intro w;rw [hzn];exact Nc w)
 have hS0:=bM.two w (arr .u8 ns) (arr .i64 zp) 23 100
 have q0:=aP (hS0.get 0 rfl) 31 (by rw [yt.out];decide)
 have q1:=aC (hS0.get 0 rfl) 31
 rw [MJ] at q0
 have e2:(arr .u8 ns).setIfInBounds 31 (.int .u8 (bits .and .u8 (t:Int) 127))=arr .u8 ms:=by rw [HA.out,bf,hn2]
 have iO:=acD ((bM.two w ((arr .u8 ns).setIfInBounds 31 (.int .u8 (bits .and .u8 (t:Int) 127))) (arr .i64 zp) 23 100).cast (l':=[(w.heap.size,arr .u8 ms, 23),(w.heap.size+1,arr .i64 zp, 100)]) (by rw [e2]))
 clear iM hzn yI hdl SS hTi hin hca hne ha hbt hE1 hE2 hE3 hE4 hb2 hy hb hy2 hy32 t1 hds htb hev hns MJ hn2 hms hks hS0 e2
 go_enter Tryd.func60, Tryd.ntmps60
 go_upto_region 3 with (first|((with_reducible refine aS 2 ?_);refine aj rfl 100 rfl _ (xZ.out _) ?_))
 rw [HBT.out]
 generalize ((w.alloc (.cells ((arr .u8 ns).setIfInBounds 31 (.int .u8 (bits .and .u8 (t:Int) 127))) 23)).alloc (.cells (arr .i64 zp) 100))=wb at iO ⊢
 by_cases hyp:y < p
 rotate_left
 ·have hn:=HNE.out
  rw [decide_eq_true hyp] at hn
  have HNB:=acD hn
  clear hn
  have dZ:=acD ((Kept.refl (fun _=>False) wb).drew)
  have eB:=acD (iO.out.drew)
  refine wp_region_held_drew (S:=(fun w'=>Kept (fun _=>False) wb w')) (by kernel_rfl) (dZ.out) (fun hHeld=>?_)
  generalize wb.drew=wd at dZ eB hHeld ⊢
  refine' wpAnyH_take (i:=0) (oi:=(⟨some 17,_,_,_,_,none⟩:Oper)) (v:=_) rfl (by kernel_rfl) (by kernel_rfl) (by kernel_rfl) (fun _ _ _ h=>h) (yieldsIf_load_mid (by rfl) _ _ rfl _ _ rfl (ms.map (Value.int .u8)) _ ?hS701 Tryd.underlying23 rfl (by rw [acE];exact bU tH.out)) (by assumption) ?rest701
  case hS701=>(intro w hSw;(try dsimp only at hSw);exact aN (hSw.blk (iO.out.get 0 rfl) (fun e=>e.elim)) 0 _ (by rw [acE];exact au _ _))
  (try simp only [Act.put,sA,sZ,sS])
  refine' wpAnyH_take (i:=2) (oi:=(⟨some 19,_,_,_,_,none⟩:Oper)) (v:=_) rfl (by kernel_rfl) (by kernel_rfl) (by kernel_rfl) (fun _ _ _ h=>h) (yieldsIf_load_mid (by rfl) _ _ rfl _ _ rfl (ms.map (Value.int .u8)) _ ?hS702 Tryd.underlying23 rfl (by rw [acE];exact bU tH.out)) (by assumption) ?rest702
  case hS702=>(intro w hSw;(try dsimp only at hSw);exact aN (hSw.blk (iO.out.get 0 rfl) (fun e=>e.elim)) 0 _ (by rw [acE];exact au _ _))
  (try simp only [Act.put,sA,sZ,sS])
  refine wpAnyH_ready (rs:=[1]) (by kernel_rfl) (by simp) ?_
  refine AllReadyH.cons (o:=(⟨some 18,_,_,_,_,none⟩:Oper)) rfl (fun K hK=>?_) AllReadyH.nil
  go_simp
  go_at_call 81
  refine (HCA.out _).mono ?_
  rintro e w703 ⟨rfl,Yz⟩
  have HB703:=acD (eB.out.kept Yz)
  have HK703:=acD (dZ.out.trans (Kept.of_below Yz))
  clear Yz
  (try dsimp only)
  clear eB
  clear dZ
  clear hHeld
  refine hK.out _ _ (HK703.out) (fun hHeld=>?_)
  clear hK K
  (try simp only [Act.put,sA,sZ,sS])
  refine wpAnyH_take (i:=3) (oi:=(⟨some 20,_,_,_,_,none⟩:Oper)) (v:=(.bool true)) rfl (by kernel_rfl) (by kernel_rfl) (by kernel_rfl) (fun _ _ _ h=>h) (Or.inl ⟨by rfl,?hy704⟩) (by assumption) ?rest704
  case hy704=>(intro w hSw;(try dsimp only at hSw);exact uK 23 _ _ (.tmp 18) (.tmp 19) rfl 32 .u8 .u8 Tryd.underlying23 Tryd.underlying5 (fun w=>by kernel_rfl) (by kernel_rfl) ks ms rfl rfl kU.out tH.out _ HNB.out)
  (try simp only [Act.put,sA,sZ,sS])
  refine wpAnyH_done (by kernel_rfl) ?_ _
  have rF:=HB703
  clear iO
  (try simp only [Exit.then])
  go_wp2_with (first|((with_reducible refine aS 21 ?_);refine wpList_build (by rfl) 100 _ rfl #[] rfl _ (HBP.out _) ?_)|((with_reducible refine aT 2 ?_);refine lS rfl rfl rF 1 rfl rfl rfl (ay _ _ jB.out jB.out) (lQ jB.out) (av _ _) ?_;intro w99 HBZ))
  (try simp only [Exit.then])
  refine bodyPost_ret (aV rfl _ _ (w.heap.size+1) 100 _ (0,0) _ _ rfl (HBZ.out.get 1 rfl) Tryd.underlying100 rfl (lQ jB.out) rfl) rfl ?_
  have hev:=HE1.out hyp
  exact ⟨zp,by rw [hev];rfl,jB.out,(fun P h=>by rw [hev] at h;cases h),HBZ.out.below⟩
 ·have hn:=HNE.out
  rw [decide_eq_false (fun h=>h hyp)] at hn
  have HNB:=acD hn
  clear hn
  have dZ:=acD ((Kept.refl (fun _=>False) wb).drew)
  have eB:=acD (iO.out.drew)
  refine wp_region_held_drew (S:=(fun w'=>Kept (fun _=>False) wb w')) (by kernel_rfl) (dZ.out) (fun hHeld=>?_)
  generalize wb.drew=wd at dZ eB hHeld ⊢
  refine' wpAnyH_take (i:=0) (oi:=(⟨some 17,_,_,_,_,none⟩:Oper)) (v:=_) rfl (by kernel_rfl) (by kernel_rfl) (by kernel_rfl) (fun _ _ _ h=>h) (yieldsIf_load_mid (by rfl) _ _ rfl _ _ rfl (ms.map (Value.int .u8)) _ ?hS705 Tryd.underlying23 rfl (by rw [acE];exact bU tH.out)) (by assumption) ?rest705
  case hS705=>(intro w hSw;(try dsimp only at hSw);exact aN (hSw.blk (iO.out.get 0 rfl) (fun e=>e.elim)) 0 _ (by rw [acE];exact au _ _))
  (try simp only [Act.put,sA,sZ,sS])
  refine' wpAnyH_take (i:=2) (oi:=(⟨some 19,_,_,_,_,none⟩:Oper)) (v:=_) rfl (by kernel_rfl) (by kernel_rfl) (by kernel_rfl) (fun _ _ _ h=>h) (yieldsIf_load_mid (by rfl) _ _ rfl _ _ rfl (ms.map (Value.int .u8)) _ ?hS706 Tryd.underlying23 rfl (by rw [acE];exact bU tH.out)) (by assumption) ?rest706
  case hS706=>(intro w hSw;(try dsimp only at hSw);exact aN (hSw.blk (iO.out.get 0 rfl) (fun e=>e.elim)) 0 _ (by rw [acE];exact au _ _))
  (try simp only [Act.put,sA,sZ,sS])
  refine wpAnyH_ready (rs:=[1]) (by kernel_rfl) (by simp) ?_
  refine AllReadyH.cons (o:=(⟨some 18,_,_,_,_,none⟩:Oper)) rfl (fun K hK=>?_) AllReadyH.nil
  go_simp
  go_at_call 81
  refine (HCA.out _).mono ?_
  rintro e w707 ⟨rfl,Yy⟩
  have HB707:=acD (eB.out.kept Yy)
  have HK707:=acD (dZ.out.trans (Kept.of_below Yy))
  clear Yy
  (try dsimp only)
  clear eB
  clear dZ
  clear hHeld
  refine hK.out _ _ (HK707.out) (fun hHeld=>?_)
  clear hK K
  (try simp only [Act.put,sA,sZ,sS])
  refine wpAnyH_take (i:=3) (oi:=(⟨some 20,_,_,_,_,none⟩:Oper)) (v:=(.bool false)) rfl (by kernel_rfl) (by kernel_rfl) (by kernel_rfl) (fun _ _ _ h=>h) (Or.inl ⟨by rfl,?hy708⟩) (by assumption) ?rest708
  case hy708=>(intro w hSw;(try dsimp only at hSw);exact uK 23 _ _ (.tmp 18) (.tmp 19) rfl 32 .u8 .u8 Tryd.underlying23 Tryd.underlying5 (fun w=>by kernel_rfl) (by kernel_rfl) ks ms rfl rfl kU.out tH.out _ HNB.out)
  (try simp only [Act.put,sA,sZ,sS])
  refine wpAnyH_done (by kernel_rfl) ?_ _
  have rF:=HB707
  clear iO
  (try simp only [Exit.then])
  have hin2:=HIN.out
  rw [acK hyp] at hin2
  have HINy:=acD hin2
  clear hin2
  have hbf:=rF.out
  have HBF':=acD hbf
  clear hbf
  go_upto_region 7 with (first|((with_reducible refine aS 22 ?_);refine lL rfl rfl (HBF'.out.get 0 rfl) rfl (au _ _) Tryd.underlying23 rfl (bU tH.out) ?_)|((with_reducible show Calls _ 76 #[.agg _] _ _);go_at_call 76; refine (HINy.out _).mono ?_;rintro e w709 ⟨oN,rfl,h709,hb709⟩;have Ei:=acD h709;have oL:=acD h709.1;clear h709;have HB709:=acD (HBF'.out.kept hb709);clear hb709)|((with_reducible refine aS 5 ?_);refine lA rfl rfl (dN.out _) HB709 ?_;intro Fz w710 JJ; clear HB709)|((with_reducible refine aT 5 (x:=(Operand.tmp 23)) ?_);refine lS rfl rfl JJ 2 rfl rfl rfl (ay _ _ oL.out dG.out) (cZ oL.out) (av _ _) ?_;intro w711 Q5;clear JJ)|((with_reducible refine aS 24 ?_);refine lL rfl rfl (Q5.out.get 2 rfl) rfl (au _ _) Tryd.underlying98 rfl (bJ oL.out) ?_)|((with_reducible refine aS 25 ?_);refine lL rfl rfl (Q5.out.get 2 rfl) rfl (au _ _) Tryd.underlying98 rfl (bJ oL.out) ?_)|((with_reducible show Calls _ 68 #[.agg _, .agg _] _ _);go_at_call 68; refine (bL _ _ _ _ _ Ei.out Ei.out).mono ?_;rintro e w712 ⟨tV,rfl,h712,hb712⟩;have HZ712:=acD h712;have QN:=acD h712.1;clear h712;have HB712:=acD (Q5.out.kept hb712);clear hb712;clear Q5)|((with_reducible refine aS 6 ?_);refine lA rfl rfl (dN.out _) HB712 ?_;intro Aw w713 JI; clear HB712)|((with_reducible refine aT 6 (x:=(Operand.tmp 26)) ?_);refine lS rfl rfl JI 3 rfl rfl rfl (ay _ _ QN.out dG.out) (cZ QN.out) (av _ _) ?_;intro w714 HB714;clear JI))
  (try simp only [Act.put,sA,sZ,sS])
  obtain ⟨U,hU⟩:∃ u,u=under y:=⟨_,rfl⟩
  have hE2:=HE2.out
  have hE3:=HE3.out
  have hE4:=HE4.out
  have hU2:aA (aX (aA y y) 1) (finv (aL (aA dd (aA y y)) 1))=U:=hU.symm
  rw [← hU] at hE2 hE3 hE4
  have HE2':=acD hE2
  have HE3':=acD hE3
  have HE4':=acD hE4
  have HUU:=acD hU2
  clear hE2 hE3 hE4 hU hU2
  refine gQ (fun (fF:Fill) (uF:World)=>(∀ v,fF 0=some v→v = .agg (arr .i64 tV)∧True)∧(∀ v,fF 1=some v→∃ zs:List Int,v = .agg (arr .i64 zs)∧El zs 1)∧(∀ v,fF 2=some v→∃ zs:List Int,v = .agg (arr .i64 zs)∧El zs (aX (aA y y) 1))∧(∀ v,fF 3=some v→v = .agg (arr .i64 dl)∧True)∧(∀ v,fF 4=some v→v = .agg (arr .i64 tV)∧True)∧(∀ v,fF 5=some v→∃ zs:List Int,v = .agg (arr .i64 zs)∧El zs (aA dd (aA y y)))∧(∀ v,fF 6=some v→∃ zs:List Int,v = .agg (arr .i64 zs)∧El zs 1)∧(∀ v,fF 7=some v→∃ zs:List Int,v = .agg (arr .i64 zs)∧El zs (aL (aA dd (aA y y)) 1))∧(∀ v,fF 8=some v→∃ zs:List Int,v = .agg (arr .i64 zs)∧El zs (finv (aL (aA dd (aA y y)) 1)))∧(∀ v,fF 9=some v→∃ zs:List Int,v = .agg (arr .i64 zs)∧El zs (aA (aX (aA y y) 1) (finv (aL (aA dd (aA y y)) 1))))∧(∀ v,fF 10=some v→∃ zs:List Int,v = .tuple #[.agg (arr .i64 zs), .bool (gH U).2]∧El zs (gH U).1)∧(∀ v,fF 11=some v→∃ zs:List Int,v = .tuple #[.agg (arr .i64 zs), .bool (gH U).2]∧El zs (gH U).1)∧(∀ v,fF 12=some v→∃ zs:List Int,v = .agg (arr .i64 zs)∧El zs (gH U).1)∧(∀ v,fF 13=some v→v = .bool (gH U).2∧True)∧(∀ v,fF 14=some v→∃ g:Nat,v = .pointer (some ⟨g,0,none⟩))∧(∀ v,fF 16=some v→v = .bool (gH U).2∧True)∧bM w uF ([(w.heap.size,arr .u8 ms, 23),(w.heap.size+1,arr .i64 zp, 100),(Fz,arr .i64 oN, 98),(Aw,arr .i64 tV, 98)] ++ (ent (fF 14) ((if (fF 15).isSome=true then abU (fF 12) else arr .i64 ze)) 98))) (by kernel_rfl) (by kernel_rfl) ?zd7 ?sd7 ?ed7
  case zd7=>exact ⟨fun _ h=>(by cases h),fun _ h=>(by cases h),fun _ h=>(by cases h),fun _ h=>(by cases h),fun _ h=>(by cases h),fun _ h=>(by cases h),fun _ h=>(by cases h),fun _ h=>(by cases h),fun _ h=>(by cases h),fun _ h=>(by cases h),fun _ h=>(by cases h),fun _ h=>(by cases h),fun _ h=>(by cases h),fun _ h=>(by cases h),fun _ h=>(by cases h),fun _ h=>(by cases h),HB714.out.drew⟩
  case sd7 =>
   refine bH.cons (fun fF bF uF kF fJ jX mF cB fZ gN=>?_) ?_
   ·obtain ⟨j0,j1,j2,j3,j4,j5,j6,j7,j8,j9,j10,j11,j12,j13,o7,pR,hB⟩:=fJ
    have e6:bF.eval (.tmp 6) = .pointer (some ⟨Aw,0,none⟩):=fZ.old' 6 (by kernel_rfl) rfl
    have hB':=hB
    refine eZ rfl 98 _ rfl (Aw) (0) (arr .i64 tV) 98 (0,0) _ (hB'.get 3 rfl) e6 .i64 tV (au _ _) Tryd.underlying98 rfl (bJ QN.out) ?_
    exact gN _ _ ⟨fun _ h=>⟨sI h,trivial⟩,j1,j2,j3,j4,j5,j6,j7,j8,j9,j10,j11,j12,j13,o7,pR,hB⟩
   refine bH.cons (fun fF bF uF kF fJ jX mF cB fZ gN=>?_) ?_
   ·obtain ⟨j0,j1,j2,j3,j4,j5,j6,j7,j8,j9,j10,j11,j12,j13,o7,pR,hB⟩:=fJ
    refine fQ rfl 71 [Operand.const (Value.int IntKind.i64 1)] _ [.int .i64 1] rfl (by simp only [acF,acG] <;> rfl) (fun _ _=>by kernel_rfl) ?_
    refine Calls.mono (gu 1 _ (by decide)) ?_
    rintro e w1 ⟨zq,rfl,rq,hb⟩
    exact ⟨_,rfl,gN _ _ ⟨j0,fun _ h=>⟨zq,sI h,rq⟩,j2,j3,j4,j5,j6,j7,j8,j9,j10,j11,j12,j13,o7,pR,hB.kept hb⟩⟩
   refine bH.cons (fun fF bF uF kF fJ jX mF cB fZ gN=>?_) ?_
   ·obtain ⟨j0,j1,j2,j3,j4,j5,j6,j7,j8,j9,j10,j11,j12,j13,o7,pR,hB⟩:=fJ
    obtain ⟨e28,p28⟩:=fZ.at cB 0 28 (by kernel_rfl) rfl j0
    have y1:=cB 1 (by kernel_rfl)
    obtain ⟨v1,s1⟩:=sE y1
    obtain ⟨xd7_1,rfl,r1⟩:=j1 _ s1
    have Rd7_1:=acD r1
    have HLd7_1:=acD (r1.1)
    have e29:=fZ.val 1 29 rfl s1
    refine fQ rfl 78 [Operand.tmp 28,Operand.tmp 29] _ [.agg (arr .i64 tV), .agg (arr .i64 xd7_1)] rfl (by simp only [acF,acG,e28,e29] <;> rfl) (fun _ _=>by kernel_rfl) ?_
    refine Calls.mono (ji _ _ _ _ _ HZ712.out Rd7_1.out) ?_
    rintro e w1 ⟨zq,rfl,rq,hb⟩
    exact ⟨_,rfl,gN _ _ ⟨j0,j1,fun _ h=>⟨zq,sI h,rq⟩,j3,j4,j5,j6,j7,j8,j9,j10,j11,j12,j13,o7,pR,hB.kept hb⟩⟩
   refine bH.cons (fun fF bF uF kF fJ jX mF cB fZ gN=>?_) ?_
   ·obtain ⟨j0,j1,j2,j3,j4,j5,j6,j7,j8,j9,j10,j11,j12,j13,o7,pR,hB⟩:=fJ
    rw [if_pos (by simp [Region.wanted])]
    refine wp_load_mid 98 (.global 3) rfl 3 0 rfl (dl.map (Value.int .i64)) _ (bC HTD.out hB.below) Tryd.underlying98 rfl (by rw [acE];exact bJ yV.out) ?_
    exact gN _ _ ⟨j0,j1,j2,fun _ h=>⟨sI h,trivial⟩,j4,j5,j6,j7,j8,j9,j10,j11,j12,j13,o7,pR,hB⟩
   refine bH.cons (fun fF bF uF kF fJ jX mF cB fZ gN=>?_) ?_
   ·obtain ⟨j0,j1,j2,j3,j4,j5,j6,j7,j8,j9,j10,j11,j12,j13,o7,pR,hB⟩:=fJ
    have e6:bF.eval (.tmp 6) = .pointer (some ⟨Aw,0,none⟩):=fZ.old' 6 (by kernel_rfl) rfl
    have hB':=hB
    refine eZ rfl 98 _ rfl (Aw) (0) (arr .i64 tV) 98 (0,0) _ (hB'.get 3 rfl) e6 .i64 tV (au _ _) Tryd.underlying98 rfl (bJ QN.out) ?_
    exact gN _ _ ⟨j0,j1,j2,j3,fun _ h=>⟨sI h,trivial⟩,j5,j6,j7,j8,j9,j10,j11,j12,j13,o7,pR,hB⟩
   refine bH.cons (fun fF bF uF kF fJ jX mF cB fZ gN=>?_) ?_
   ·obtain ⟨j0,j1,j2,j3,j4,j5,j6,j7,j8,j9,j10,j11,j12,j13,o7,pR,hB⟩:=fJ
    obtain ⟨e31,p31⟩:=fZ.at cB 3 31 (by kernel_rfl) rfl j3
    obtain ⟨e32,p32⟩:=fZ.at cB 4 32 (by kernel_rfl) rfl j4
    refine fQ rfl 68 [Operand.tmp 31,Operand.tmp 32] _ [.agg (arr .i64 dl), .agg (arr .i64 tV)] rfl (by simp only [acF,acG,e31,e32] <;> rfl) (fun _ _=>by kernel_rfl) ?_
    refine Calls.mono (bL _ _ _ _ _ HD.out HZ712.out) ?_
    rintro e w1 ⟨zq,rfl,rq,hb⟩
    exact ⟨_,rfl,gN _ _ ⟨j0,j1,j2,j3,j4,fun _ h=>⟨zq,sI h,rq⟩,j6,j7,j8,j9,j10,j11,j12,j13,o7,pR,hB.kept hb⟩⟩
   refine bH.cons (fun fF bF uF kF fJ jX mF cB fZ gN=>?_) ?_
   ·obtain ⟨j0,j1,j2,j3,j4,j5,j6,j7,j8,j9,j10,j11,j12,j13,o7,pR,hB⟩:=fJ
    refine fQ rfl 71 [Operand.const (Value.int IntKind.i64 1)] _ [.int .i64 1] rfl (by simp only [acF,acG] <;> rfl) (fun _ _=>by kernel_rfl) ?_
    refine Calls.mono (gu 1 _ (by decide)) ?_
    rintro e w1 ⟨zq,rfl,rq,hb⟩
    exact ⟨_,rfl,gN _ _ ⟨j0,j1,j2,j3,j4,j5,fun _ h=>⟨zq,sI h,rq⟩,j7,j8,j9,j10,j11,j12,j13,o7,pR,hB.kept hb⟩⟩
   refine bH.cons (fun fF bF uF kF fJ jX mF cB fZ gN=>?_) ?_
   ·obtain ⟨j0,j1,j2,j3,j4,j5,j6,j7,j8,j9,j10,j11,j12,j13,o7,pR,hB⟩:=fJ
    have y5:=cB 5 (by kernel_rfl)
    obtain ⟨v5,s5⟩:=sE y5
    obtain ⟨xd7_5,rfl,r5⟩:=j5 _ s5
    have Rd7_5:=acD r5
    have HLd7_5:=acD (r5.1)
    have e33:=fZ.val 5 33 rfl s5
    have y6:=cB 6 (by kernel_rfl)
    obtain ⟨v6,s6⟩:=sE y6
    obtain ⟨xd7_6,rfl,r6⟩:=j6 _ s6
    have Rd7_6:=acD r6
    have HLd7_6:=acD (r6.1)
    have e34:=fZ.val 6 34 rfl s6
    refine fQ rfl 77 [Operand.tmp 33,Operand.tmp 34] _ [.agg (arr .i64 xd7_5), .agg (arr .i64 xd7_6)] rfl (by simp only [acF,acG,e33,e34] <;> rfl) (fun _ _=>by kernel_rfl) ?_
    refine Calls.mono (iW _ _ _ _ _ Rd7_5.out Rd7_6.out) ?_
    rintro e w1 ⟨zq,rfl,rq,hb⟩
    exact ⟨_,rfl,gN _ _ ⟨j0,j1,j2,j3,j4,j5,j6,fun _ h=>⟨zq,sI h,rq⟩,j8,j9,j10,j11,j12,j13,o7,pR,hB.kept hb⟩⟩
   refine bH.cons (fun fF bF uF kF fJ jX mF cB fZ gN=>?_) ?_
   ·obtain ⟨j0,j1,j2,j3,j4,j5,j6,j7,j8,j9,j10,j11,j12,j13,o7,pR,hB⟩:=fJ
    have y7:=cB 7 (by kernel_rfl)
    obtain ⟨v7,s7⟩:=sE y7
    obtain ⟨xd7_7,rfl,r7⟩:=j7 _ s7
    have Rd7_7:=acD r7
    have HLd7_7:=acD (r7.1)
    have e35:=fZ.val 7 35 rfl s7
    refine fQ rfl 66 [Operand.tmp 35] _ [.agg (arr .i64 xd7_7)] rfl (by simp only [acF,acG,e35] <;> rfl) (fun _ _=>by kernel_rfl) ?_
    refine Calls.mono (Fq _ _ _ Rd7_7.out) ?_
    rintro e w1 ⟨zq,rfl,rq,hb⟩
    exact ⟨_,rfl,gN _ _ ⟨j0,j1,j2,j3,j4,j5,j6,j7,fun _ h=>⟨zq,sI h,rq⟩,j9,j10,j11,j12,j13,o7,pR,hB.kept hb⟩⟩
   refine bH.cons (fun fF bF uF kF fJ jX mF cB fZ gN=>?_) ?_
   ·obtain ⟨j0,j1,j2,j3,j4,j5,j6,j7,j8,j9,j10,j11,j12,j13,o7,pR,hB⟩:=fJ
    have y2:=cB 2 (by kernel_rfl)
    obtain ⟨v2,s2⟩:=sE y2
    obtain ⟨xd7_2,rfl,r2⟩:=j2 _ s2
    have Rd7_2:=acD r2
    have HLd7_2:=acD (r2.1)
    have e30:=fZ.val 2 30 rfl s2
    have y8:=cB 8 (by kernel_rfl)
    obtain ⟨v8,s8⟩:=sE y8
    obtain ⟨xd7_8,rfl,r8⟩:=j8 _ s8
    have Rd7_8:=acD r8
    have HLd7_8:=acD (r8.1)
    have e36:=fZ.val 8 36 rfl s8
    refine fQ rfl 68 [Operand.tmp 30,Operand.tmp 36] _ [.agg (arr .i64 xd7_2), .agg (arr .i64 xd7_8)] rfl (by simp only [acF,acG,e30,e36] <;> rfl) (fun _ _=>by kernel_rfl) ?_
    refine Calls.mono (bL _ _ _ _ _ Rd7_2.out Rd7_8.out) ?_
    rintro e w1 ⟨zq,rfl,rq,hb⟩
    exact ⟨_,rfl,gN _ _ ⟨j0,j1,j2,j3,j4,j5,j6,j7,j8,fun _ h=>⟨zq,sI h,rq⟩,j10,j11,j12,j13,o7,pR,hB.kept hb⟩⟩
   refine bH.cons (fun fF bF uF kF fJ jX mF cB fZ gN=>?_) ?_
   ·obtain ⟨j0,j1,j2,j3,j4,j5,j6,j7,j8,j9,j10,j11,j12,j13,o7,pR,hB⟩:=fJ
    have y9:=cB 9 (by kernel_rfl)
    obtain ⟨v9,s9⟩:=sE y9
    obtain ⟨xd7_9,rfl,r9⟩:=j9 _ s9
    have Rd7_9:=acD r9
    have HLd7_9:=acD (r9.1)
    have e37:=fZ.val 9 37 rfl s9
    refine fQ rfl 82 [Operand.tmp 37] _ [.agg (arr .i64 xd7_9)] rfl (by simp only [acF,acG,e37] <;> rfl) (fun _ _=>by kernel_rfl) ?_
    refine Calls.mono (VI _ U _ (by rw [← HUU.out];exact Rd7_9.out) (bC HTI.out hB.below)) ?_
    rintro e w1 ⟨zq,rfl,rq,hb⟩
    exact ⟨_,rfl,gN _ _ ⟨j0,j1,j2,j3,j4,j5,j6,j7,j8,j9,fun _ h=>⟨zq,sI h,rq⟩,j11,j12,j13,o7,pR,hB.kept hb⟩⟩
   refine bH.cons (fun fF bF uF kF fJ jX mF cB fZ gN=>?_) ?_
   ·obtain ⟨j0,j1,j2,j3,j4,j5,j6,j7,j8,j9,j10,j11,j12,j13,o7,pR,hB⟩:=fJ
    have y10:=cB 10 (by kernel_rfl)
    obtain ⟨v10,s10⟩:=sE y10
    obtain ⟨J8,rfl,r10⟩:=j10 _ s10
    have acA:=acD r10
    have HLd7_10:=acD (r10.1)
    have e38:=fZ.val 10 38 rfl s10
    exact eF rfl (.tuple #[.agg (arr .i64 J8), .bool (gH U).2]) (by simp only [execOp,e38] <;> first|rfl|kernel_rfl|(go_simp;done)) (gN _ _ ⟨j0,j1,j2,j3,j4,j5,j6,j7,j8,j9,j10,fun _ h=>⟨J8,sI h,acA.out⟩,j12,j13,o7,pR,hB⟩)
   refine bH.cons (fun fF bF uF kF fJ jX mF cB fZ gN=>?_) ?_
   ·obtain ⟨j0,j1,j2,j3,j4,j5,j6,j7,j8,j9,j10,j11,j12,j13,o7,pR,hB⟩:=fJ
    have y11:=cB 11 (by kernel_rfl)
    obtain ⟨v11,s11⟩:=sE y11
    obtain ⟨Ew,rfl,r11⟩:=j11 _ s11
    have Nt:=acD r11
    have QM:=acD (r11.1)
    have e27:=fZ.val 11 27 rfl s11
    have n15:=mF.down 15 12 (by kernel_rfl) jX
    exact eF rfl (.agg (arr .i64 Ew)) (by simp only [execOp,e27] <;> first|rfl|kernel_rfl|(go_simp;done)) (gN _ _ ⟨j0,j1,j2,j3,j4,j5,j6,j7,j8,j9,j10,j11,fun _ h=>⟨Ew,sI h,Nt.out⟩,j13,o7,pR,(by have h:=hB;rw [n15] at h;rw [Vh n15];exact h;decide)⟩)
   refine bH.cons (fun fF bF uF kF fJ jX mF cB fZ gN=>?_) ?_
   ·obtain ⟨j0,j1,j2,j3,j4,j5,j6,j7,j8,j9,j10,j11,j12,j13,o7,pR,hB⟩:=fJ
    have y11:=cB 11 (by kernel_rfl)
    obtain ⟨v11,s11⟩:=sE y11
    obtain ⟨Ew,rfl,r11⟩:=j11 _ s11
    have Nt:=acD r11
    have QM:=acD (r11.1)
    have e27:=fZ.val 11 27 rfl s11
    exact eF rfl (.bool (gH U).2) (by simp only [execOp,e27] <;> first|rfl|kernel_rfl|(go_simp;done)) (gN _ _ ⟨j0,j1,j2,j3,j4,j5,j6,j7,j8,j9,j10,j11,j12,fun _ h=>⟨sI h,trivial⟩,o7,pR,hB⟩)
   refine bH.cons (fun fF bF uF kF fJ jX mF cB fZ gN=>?_) ?_
   ·obtain ⟨j0,j1,j2,j3,j4,j5,j6,j7,j8,j9,j10,j11,j12,j13,o7,pR,hB⟩:=fJ
    have n15:=mF.down 15 14 (by kernel_rfl) jX
    refine bg rfl 98 rfl _ (dN.out _) ?_
    have hB1:bM w (uF.alloc (.cells (arr .i64 ze) 98)) ([(w.heap.size,arr .u8 ms, 23),(w.heap.size+1,arr .i64 zp, 100),(Fz,arr .i64 oN, 98),(Aw,arr .i64 tV, 98)] ++ (ent ((some (.pointer (some ⟨uF.heap.size,0,none⟩)):Option Value)) ((if (fF 15).isSome=true then abU (fF 12) else arr .i64 ze)) 98)):=hB.ins (a:=[(w.heap.size,arr .u8 ms, 23),(w.heap.size+1,arr .i64 zp, 100),(Fz,arr .i64 oN, 98),(Aw,arr .i64 tV, 98)]) (b:=[]) _ _ (by rw [jX,n15];simp only [uL,acN,acO,acP,acQ]) (by rw [n15];simp only [AL,acN,acO,acP,acQ,Option.isSome_none,Bool.false_eq_true,if_false])
    exact gN _ _ ⟨j0,j1,j2,j3,j4,j5,j6,j7,j8,j9,j10,j11,j12,j13,fun _ h=>⟨_,sI h⟩,pR,hB1⟩
   refine bH.cons (fun fF bF uF kF fJ jX mF cB fZ gN=>?_) ?_
   ·obtain ⟨j0,j1,j2,j3,j4,j5,j6,j7,j8,j9,j10,j11,j12,j13,o7,pR,hB⟩:=fJ
    have y14:=cB 14 (by kernel_rfl)
    obtain ⟨v14,s14⟩:=sE y14
    obtain ⟨Ql,rfl⟩:=o7 _ s14
    have e7:=fZ.val 14 7 rfl s14
    have y12:=cB 12 (by kernel_rfl)
    obtain ⟨v12,s12⟩:=sE y12
    obtain ⟨J7,rfl,r12⟩:=j12 _ s12
    have Ns:=acD r12
    have yT:=acD (r12.1)
    have e39:=fZ.val 12 39 rfl s12
    have hB':=hB
    rw [s14,s12,jX] at hB'
    refine aH rfl 98 (.tmp 7) (.tmp 39) rfl (Ql) (arr .i64 ze) _ 98 (hB'.get 4 rfl) e7 e39 (ay _ _ yT.out dG.out) (cZ yT.out) (av _ _) ?_
    intro w1 hb1 hk1 hz1
    have hB1:bM w w1 ([(w.heap.size,arr .u8 ms, 23),(w.heap.size+1,arr .i64 zp, 100),(Fz,arr .i64 oN, 98),(Aw,arr .i64 tV, 98)] ++ (ent (fF 14) ((if ((some undef:Option Value)).isSome=true then abU (fF 12) else arr .i64 ze)) 98)):=by rw [s14,s12];exact hB'.put 4 rfl hk1 hb1
    exact gN undef w1 ⟨j0,j1,j2,j3,j4,j5,j6,j7,j8,j9,j10,j11,j12,j13,o7,pR,hB1⟩
   refine bH.cons (fun fF bF uF kF fJ jX mF cB fZ gN=>?_) ?_
   ·obtain ⟨j0,j1,j2,j3,j4,j5,j6,j7,j8,j9,j10,j11,j12,j13,o7,pR,hB⟩:=fJ
    obtain ⟨e40,p40⟩:=fZ.at cB 13 40 (by kernel_rfl) rfl j13
    exact eF rfl (.bool (gH U).2) (by simp only [execOp,e40] <;> first|rfl|kernel_rfl|(go_simp;done)) (gN _ _ ⟨j0,j1,j2,j3,j4,j5,j6,j7,j8,j9,j10,j11,j12,j13,o7,fun _ h=>⟨sI h,trivial⟩,hB⟩)
   exact bH.nil
  case ed7 =>
  intro fF ud7 hall fJ
  obtain ⟨j0,j1,j2,j3,j4,j5,j6,j7,j8,j9,j10,j11,j12,j13,o7,pR,hB⟩:=fJ
  obtain ⟨v0,h0⟩:=sE (hall 0 (by decide))
  obtain ⟨rfl,p0⟩:=j0 _ h0
  obtain ⟨v1,h1⟩:=sE (hall 1 (by decide))
  obtain ⟨xd7_1,rfl,r1⟩:=j1 _ h1
  have Rd7_1:=acD r1
  have HLd7_1:=acD (r1.1)
  clear r1
  obtain ⟨v2,h2⟩:=sE (hall 2 (by decide))
  obtain ⟨xd7_2,rfl,r2⟩:=j2 _ h2
  have Rd7_2:=acD r2
  have HLd7_2:=acD (r2.1)
  clear r2
  obtain ⟨v3,h3⟩:=sE (hall 3 (by decide))
  obtain ⟨rfl,p3⟩:=j3 _ h3
  obtain ⟨v4,h4⟩:=sE (hall 4 (by decide))
  obtain ⟨rfl,p4⟩:=j4 _ h4
  obtain ⟨v5,h5⟩:=sE (hall 5 (by decide))
  obtain ⟨xd7_5,rfl,r5⟩:=j5 _ h5
  have Rd7_5:=acD r5
  have HLd7_5:=acD (r5.1)
  clear r5
  obtain ⟨v6,h6⟩:=sE (hall 6 (by decide))
  obtain ⟨xd7_6,rfl,r6⟩:=j6 _ h6
  have Rd7_6:=acD r6
  have HLd7_6:=acD (r6.1)
  clear r6
  obtain ⟨v7,h7⟩:=sE (hall 7 (by decide))
  obtain ⟨xd7_7,rfl,r7⟩:=j7 _ h7
  have Rd7_7:=acD r7
  have HLd7_7:=acD (r7.1)
  clear r7
  obtain ⟨v8,h8⟩:=sE (hall 8 (by decide))
  obtain ⟨xd7_8,rfl,r8⟩:=j8 _ h8
  have Rd7_8:=acD r8
  have HLd7_8:=acD (r8.1)
  clear r8
  obtain ⟨v9,h9⟩:=sE (hall 9 (by decide))
  obtain ⟨xd7_9,rfl,r9⟩:=j9 _ h9
  have Rd7_9:=acD r9
  have HLd7_9:=acD (r9.1)
  clear r9
  obtain ⟨v10,h10⟩:=sE (hall 10 (by decide))
  obtain ⟨J8,rfl,r10⟩:=j10 _ h10
  have acA:=acD r10
  have HLd7_10:=acD (r10.1)
  clear r10
  obtain ⟨v11,h11⟩:=sE (hall 11 (by decide))
  obtain ⟨Ew,rfl,r11⟩:=j11 _ h11
  have Nt:=acD r11
  have QM:=acD (r11.1)
  clear r11
  obtain ⟨v12,h12⟩:=sE (hall 12 (by decide))
  obtain ⟨J7,rfl,r12⟩:=j12 _ h12
  have Ns:=acD r12
  have yT:=acD (r12.1)
  clear r12
  obtain ⟨v13,h13⟩:=sE (hall 13 (by decide))
  obtain ⟨rfl,p13⟩:=j13 _ h13
  obtain ⟨v14,h14⟩:=sE (hall 14 (by decide))
  obtain ⟨Ql,rfl⟩:=o7 _ h14
  obtain ⟨v15,h15⟩:=sE (hall 15 (by decide))
  obtain ⟨v16,h16⟩:=sE (hall 16 (by decide))
  obtain ⟨rfl,p16⟩:=pR _ h16
  rw [h14,h15,h12] at hB
  have HBd7:Hid (bM w ud7 [(w.heap.size,arr .u8 ms, 23),(w.heap.size+1,arr .i64 zp, 100),(Fz,arr .i64 oN, 98),(Aw,arr .i64 tV, 98),(Ql,arr .i64 J7, 98)]):=acD hB
  simp only [laid,Nat.zero_add,Nat.reduceAdd,h0,h1,h2,h3,h4,h5,h6,h7,h8,h9,h10,h11,h12,h13,h14,h15,h16,Act.put,sA,sZ,sS]
  clear j0 j1 j2 j3 j4 j5 j6 j7 j8 j9 j10 j11 j12 j13 o7 pR hB h0 h1 h2 h3 h4 h5 h6 h7 h8 h9 h10 h11 h12 h13 h14 h15 h16 hall fF HB714
  clear p0 p3 p4 p13 p16
  (try simp only [Exit.then])
  have fC:=HBd7
  have HXR:=Ns
  have iK:=yT
  clear HBd7 Ns
  generalize J7=xr at fC HXR iK ⊢
  generalize ud7=wy at fC ⊢
  generalize Ql=gx at fC ⊢
  obtain ⟨r,hr⟩:∃ r,r=(gH U).1:=⟨_,rfl⟩
  have HR:=acD hr
  rw [← hr] at HXR
  have hrl:r < p:=by rw [hr];exact H9 U
  have iG:=acD hrl
  clear hr hrl
  cases hok:(gH U).2 with
  | false =>
   have HOK:=acD hok
   clear hok
   go_wp2_with (first|((with_reducible refine aS 43 ?_);refine wpList_build (by rfl) 100 _ rfl #[] rfl _ (HBP.out _) ?_)|((with_reducible refine aT 2 ?_);refine lS rfl rfl fC 1 rfl rfl rfl (ay _ _ jB.out jB.out) (lQ jB.out) (av _ _) ?_;intro w99 HBZ))
   (try simp only [Exit.then])
   refine bodyPost_ret (aV rfl _ _ (w.heap.size+1) 100 _ (0,0) _ _ rfl (HBZ.out.get 1 rfl) Tryd.underlying100 rfl (lQ jB.out) rfl) rfl ?_
   have hev:=HE2'.out HOK.out
   exact ⟨zp,by rw [hev];rfl,jB.out,(fun P h=>by rw [hev] at h;cases h),HBZ.out.below⟩
  | true =>
   have HOK:=acD hok
   clear hok
   have how:=fun w=>nR xr r w HXR.out
   have hz:=D5 (Nat.lt_trans iG.out KE) (show 0 < 256 ^ 32 by decide)
   rw [← HNz.out] at hz
   have hlo:(aW (bD 256 32 r)).getD 0 0=((r % 256:Nat):Int):=by rw [bG,Aa]
   obtain ⟨rw8,hrw⟩:∃ x,x=aW (bD 256 32 r):=⟨_,rfl⟩
   have rE:Hid (rw8.length=32):=acD (by rw [hrw,aJ,aK])
   rw [← hrw] at how hz hlo
   have HOW:=acD how
   have HZZ:=acD hz
   have HLO:=acD hlo
   clear how hz hlo hrw
   go_upto_region 11 with (first|((with_reducible refine aS 44 ?_);refine lL rfl rfl (fC.out.get 4 rfl) rfl (au _ _) Tryd.underlying98 rfl (bJ iK.out) ?_)|((with_reducible show Calls _ 67 #[.agg _] _ _);go_at_call 67; refine lC (HOW.out _) fC ?_;intro w715 HB715)|((with_reducible refine aS 9 ?_);refine lA rfl rfl (dA.out _) HB715 ?_;intro aaP w716 JH; clear HB715)|((with_reducible refine aT 9 (x:=(Operand.tmp 45)) ?_);refine lS rfl rfl JH 5 rfl rfl rfl (ay _ _ rE.out cK.out) (bE rE.out) (av _ _) ?_;intro w717 BG;clear JH))
   (try simp only [World.size_alloc,Act.put,sA,sZ,sS])
   by_cases hz:r=0∧b=1
   ·obtain ⟨hz1,hz2⟩:=hz
    have hzb:=HZZ.out
    rw [decide_eq_true hz1] at hzb
    have HZB:=acD hzb
    have HNO:=acD (HE3'.out hz2 (by rw [← HR.out];exact hz1))
    have hb1:((b:Int) == 1)=true:=by rw [hz2];rfl
    clear hzb hz1 hz2
    go_upto_region 12 with (first|((with_reducible refine aS 46 ?_);refine lL rfl rfl (BG.out.get 5 rfl) rfl (au _ _) Tryd.underlying23 rfl (bU rE.out) ?_)|((with_reducible refine aS 47 ?_);refine wpList_build (by rfl) 23 _ rfl #[] rfl _ (HBN.out _) ?_)|((with_reducible refine aS 48 ?_);refine iA (by rfl) 23 _ _ (.tmp 46) (.tmp 47) rfl 32 .u8 .u8 Tryd.underlying23 Tryd.underlying5 (fun w=>by kernel_rfl) (by kernel_rfl) rw8 zn rfl rfl rE.out cK.out true HZB.out ?_))
    go_wp2_with (first|((with_reducible refine aS 53 ?_);refine wpList_build (by rfl) 100 _ rfl #[] rfl _ (HBP.out _) ?_)|((with_reducible refine aT 2 ?_);refine lS rfl rfl BG 1 rfl rfl rfl (ay _ _ jB.out jB.out) (lQ jB.out) (av _ _) ?_;intro w99 HBZ))
    (try simp only [Exit.then])
    refine bodyPost_ret (aV rfl _ _ (w.heap.size+1) 100 _ (0,0) _ _ rfl (HBZ.out.get 1 rfl) Tryd.underlying100 rfl (lQ jB.out) rfl) rfl ?_
    have hev:=HNO.out
    exact ⟨zp,by rw [hev];rfl,jB.out,(fun P h=>by rw [hev] at h;cases h),HBZ.out.below⟩
   ·have HSO:=acD (HE4'.out r hyp HR.out.symm HOK.out hz)
    have hzk:=acD hz
    go_cut [52] (fun v52 wx=>v52 = .bool false∧bM w wx [(w.heap.size,arr .u8 ms, 23),(w.heap.size+1,arr .i64 zp, 100),(Fz,arr .i64 oN, 98),(Aw,arr .i64 tV, 98),(gx,arr .i64 xr, 98),(aaP,(arr .u8 rw8), 23)])
    case first =>
     by_cases hz1:r=0
     ·have hzb:=HZZ.out
      rw [decide_eq_true hz1] at hzb
      have HZB:=acD hzb
      clear hzb hz
      have hb0:((b:Int) == 1)=false:=by rw [beq_eq_false_iff_ne];have:=HB2.out;have:¬ b=1:=fun e=>hzk.out ⟨hz1,e⟩;omega
      go_wp2_with (first|((with_reducible refine aS 46 ?_);refine lL rfl rfl (BG.out.get 5 rfl) rfl (au _ _) Tryd.underlying23 rfl (bU rE.out) ?_)|((with_reducible refine aS 47 ?_);refine wpList_build (by rfl) 23 _ rfl #[] rfl _ (HBN.out _) ?_)|((with_reducible refine aS 48 ?_);refine iA (by rfl) 23 _ _ (.tmp 46) (.tmp 47) rfl 32 .u8 .u8 Tryd.underlying23 Tryd.underlying5 (fun w=>by kernel_rfl) (by kernel_rfl) rw8 zn rfl rfl rE.out cK.out true HZB.out ?_))
      go_meet
      exact ⟨rfl,BG.out⟩
     ·have hzb:=HZZ.out
      rw [decide_eq_false hz1] at hzb
      have HZB:=acD hzb
      clear hzb hz
      go_wp2_with (first|((with_reducible refine aS 46 ?_);refine lL rfl rfl (BG.out.get 5 rfl) rfl (au _ _) Tryd.underlying23 rfl (bU rE.out) ?_)|((with_reducible refine aS 47 ?_);refine wpList_build (by rfl) 23 _ rfl #[] rfl _ (HBN.out _) ?_)|((with_reducible refine aS 48 ?_);refine iA (by rfl) 23 _ _ (.tmp 46) (.tmp 47) rfl 32 .u8 .u8 Tryd.underlying23 Tryd.underlying5 (fun w=>by kernel_rfl) (by kernel_rfl) rw8 zn rfl rfl rE.out cK.out false HZB.out ?_))
      go_meet
      exact ⟨rfl,BG.out⟩
    case rest =>
    obtain ⟨wz,rfl⟩:∃ x:World,x=wc:=⟨_,rfl⟩
    obtain ⟨rfl,hbc⟩:=hcut
    have Q0:=acD hbc
    clear hbc
    have q0:=aP (Q0.out.get 5 rfl) 0 (by rw [rE.out];decide)
    rw [HLO.out] at q0
    have ha2:=abT (r % 256) (acJ _ (by decide))
    rw [Nat.mod_mod_of_dvd r (show 2 ∣ 256 by decide)] at ha2
    have hbb:=HB2.out
    by_cases hf:r % 2≠b
    ·have HFL:=acD hf
     have hw:(bits .and .u8 ((r % 256:Nat):Int) 1 == (b:Int))=false:=by rw [ha2];rw [beq_eq_false_iff_ne];omega
     generalize r % 256=rb at q0 hw
     clear hf ha2
     go_upto_region 13 with fail
     go_upto_region 15 with (first|((with_reducible refine aS 59 ?_);refine wpList_build (by rfl) 98 _ rfl #[] rfl _ (Db.out _) ?_)|((with_reducible refine aS 60 ?_);refine lL rfl rfl (Q0.out.get 4 rfl) rfl (au _ _) Tryd.underlying98 rfl (bJ iK.out) ?_)|((with_reducible show Calls _ 78 #[.agg _, .agg _] _ _);go_at_call 78; refine (ji _ _ _ _ _ HEz.out HXR.out).mono ?_;rintro e w718 ⟨UL,rfl,h718,hb718⟩;have HZ718:=acD h718;have Eo:=acD h718.1;clear h718;have HB718:=acD (Q0.out.kept hb718);clear hb718)|((with_reducible refine aT 7 (x:=(Operand.tmp 61)) ?_);refine lS rfl rfl HB718 4 rfl rfl rfl (ay _ _ Eo.out iK.out) (cZ Eo.out) (av _ _) ?_;intro w719 uW;clear HB718))
     have dZ:=acD ((Kept.refl (fun x=>x=w.heap.size+1) w719).drew)
     have eB:=acD (uW.out.drew)
     refine wp_region_held_drew (S:=(fun w'=>Kept (fun x=>x=w.heap.size+1) w719 w')) (by kernel_rfl) (dZ.out) (fun hHeld=>?_)
     generalize w719.drew=wd at dZ eB hHeld ⊢
     refine' wpAnyH_take (i:=0) (oi:=(⟨some 62,_,_,_,_,none⟩:Oper)) (v:=_) rfl (by kernel_rfl) (by kernel_rfl) (by kernel_rfl) (fun _ _ _ h=>h) (yieldsIf_load_mid (by rfl) _ _ rfl _ _ rfl (UL.map (Value.int .i64)) _ ?hS720 Tryd.underlying98 rfl (by rw [acE];exact bJ Eo.out)) (by assumption) ?rest720
     case hS720=>(intro w hSw;(try dsimp only at hSw);exact aN (hSw.blk (uW.out.get 4 rfl) (uW.out.ne 4 1 rfl rfl (by decide))) 0 _ (by rw [acE];exact au _ _))
     (try simp only [Act.put,sA,sZ,sS])
     refine' wpAnyH_take (i:=1) (oi:=(⟨some 63,_,_,_,_,none⟩:Oper)) (v:=_) rfl (by kernel_rfl) (by kernel_rfl) (by kernel_rfl) (fun _ _ _ h=>h) (yieldsIf_load_mid (by rfl) _ _ rfl _ _ rfl (oN.map (Value.int .i64)) _ ?hS721 Tryd.underlying98 rfl (by rw [acE];exact bJ oL.out)) (by assumption) ?rest721
     case hS721=>(intro w hSw;(try dsimp only at hSw);exact aN (hSw.blk (uW.out.get 2 rfl) (uW.out.ne 2 1 rfl rfl (by decide))) 0 _ (by rw [acE];exact au _ _))
     (try simp only [Act.put,sA,sZ,sS])
     refine' wpAnyH_take (i:=3) (oi:=(⟨some 65,_,_,_,_,none⟩:Oper)) (v:=_) rfl (by kernel_rfl) (by kernel_rfl) (by kernel_rfl) (fun _ _ _ h=>h) (yieldsIf_load_mid (by rfl) _ _ rfl _ _ rfl (UL.map (Value.int .i64)) _ ?hS722 Tryd.underlying98 rfl (by rw [acE];exact bJ Eo.out)) (by assumption) ?rest722
     case hS722=>(intro w hSw;(try dsimp only at hSw);exact aN (hSw.blk (uW.out.get 4 rfl) (uW.out.ne 4 1 rfl rfl (by decide))) 0 _ (by rw [acE];exact au _ _))
     (try simp only [Act.put,sA,sZ,sS])
     refine' wpAnyH_take (i:=4) (oi:=(⟨some 66,_,_,_,_,none⟩:Oper)) (v:=_) rfl (by kernel_rfl) (by kernel_rfl) (by kernel_rfl) (fun _ _ _ h=>h) (yieldsIf_load_mid (by rfl) _ _ rfl _ _ rfl (oN.map (Value.int .i64)) _ ?hS723 Tryd.underlying98 rfl (by rw [acE];exact bJ oL.out)) (by assumption) ?rest723
     case hS723=>(intro w hSw;(try dsimp only at hSw);exact aN (hSw.blk (uW.out.get 2 rfl) (uW.out.ne 2 1 rfl rfl (by decide))) 0 _ (by rw [acE];exact au _ _))
     (try simp only [Act.put,sA,sZ,sS])
     refine wpAnyH_ready (rs:=[2]) (by kernel_rfl) (by simp) ?_
     refine AllReadyH.cons (o:=(⟨some 64,_,_,_,_,none⟩:Oper)) rfl (fun K hK=>?_) AllReadyH.nil
     go_simp
     go_at_call 71
     refine (gu 1 _ (by decide)).mono ?_
     rintro e w724 ⟨z724,rfl,h724,Yx⟩
     have HZ724:=acD h724
     have HL724:=acD h724.1
     clear h724
     have HB724:=acD (eB.out.kept Yx)
     have HK724:=acD (dZ.out.trans (Kept.of_below Yx))
     clear Yx
     (try dsimp only)
     clear eB
     clear dZ
     clear hHeld
     refine hK.out _ _ (HK724.out) (fun hHeld=>?_)
     clear hK K
     (try simp only [Act.put,sA,sZ,sS])
     refine wpAnyH_ready (rs:=[5]) (by kernel_rfl) (by simp) ?_
     refine AllReadyH.cons (o:=(⟨some 67,_,_,_,_,none⟩:Oper)) rfl (fun K hK=>?_) AllReadyH.nil
     go_simp
     go_at_call 68
     refine (bL _ _ _ _ _ HZ718.out Ei.out).mono ?_
     rintro e w725 ⟨z725,rfl,h725,Yu⟩
     have HZ725:=acD h725
     have HL725:=acD h725.1
     clear h725
     have HB725:=acD (HB724.out.kept Yu)
     have HK725:=acD (HK724.out.trans (Kept.of_below Yu))
     clear Yu
     (try dsimp only)
     clear HB724
     clear HK724
     clear hHeld
     refine hK.out _ _ (HK725.out) (fun hHeld=>?_)
     clear hK K
     (try simp only [Act.put,sA,sZ,sS])
     obtain ⟨v727,Qc⟩:∃ x,x=UL ++ oN ++ z724 ++ z725:=⟨_,rfl⟩
     have HR727:Hid (∀ w,(Instr.build 100 #[(0, .agg (arr .i64 UL)),(1, .agg (arr .i64 oN)),(2, .agg (arr .i64 z724)),(3, .agg (arr .i64 z725))]).run Tryd.prog w = .ok (.agg (arr .i64 v727)) w):=acD (fun w=>by rw [Qc];exact qC _ _ _ _ Eo.out oL.out HL724.out HL725.out w)
     have HL727:Hid (v727.length=64):=acD (by rw [Qc];exact zS Eo.out oL.out HL724.out HL725.out)
     have HV727:=acD Qc
     clear Qc
     refine wpAnyH_take (i:=6) (oi:=(⟨some 68,_,_,_,_,none⟩:Oper)) (v:=(.agg (arr .i64 v727))) rfl (by kernel_rfl) (by kernel_rfl) (by kernel_rfl) (fun _ _ _ h=>h) (Or.inl ⟨by rfl,?hy726⟩) (by assumption) ?rest726
     case hy726=>(intro w hSw;(try dsimp only at hSw);exact rY 100 _ rfl #[(0, .agg (arr .i64 UL)),(1, .agg (arr .i64 oN)),(2, .agg (arr .i64 z724)),(3, .agg (arr .i64 z725))] rfl _ (HR727.out _))
     (try simp only [Act.put,sA,sZ,sS])
     refine wpAnyH_ready (rs:=[7]) (by kernel_rfl) (by simp) ?_
     refine AllReadyH.cons (o:=(⟨none,_,_,_,_,none⟩:Oper)) rfl (fun K hK=>?_) AllReadyH.nil
     refine aH rfl 100 (.tmp 2) (.tmp 68) rfl (w.heap.size+1) _ _ _ (HB725.out.get 1 rfl) rfl rfl (ay _ _ HL727.out jB.out) (lQ HL727.out) (av _ _) ?_
     intro w728 hb728 XJ hz728
     have HB728:=acD (HB725.out.put 1 rfl XJ hb728)
     have HK728:=acD (HK725.out.trans XJ)
     clear hb728 XJ hz728
     clear HB725
     clear HK725
     clear hHeld
     refine hK.out _ _ (HK728.out) (fun hHeld=>?_)
     clear hK K
     (try simp only [Act.put])
     refine wpAnyH_take (i:=8) (oi:=(⟨some 3,_,_,_,_,none⟩:Oper)) (v:=?v729) rfl (by kernel_rfl) (by kernel_rfl) (by kernel_rfl) (fun _ _ _ h=>h) (Or.inl ⟨by rfl,?hy729⟩) (by assumption) ?rest729
     case hy729=>(intro w hSw;(try dsimp only at hSw);go_simp;try (with_reducible rfl))
     (try simp only [Act.put,sA,sZ,sS])
     refine wpAnyH_done (by kernel_rfl) ?_ _
     have HBQ:=HB728
     have HWQ:=HL727
     have HF0:=HV727
     have HF1:=HZ718
     have HF2:=Ei
     have HF3:=HZ724
     have HF4:=HZ725
     (try simp only [Exit.then])
     go_wp2_with fail
     refine bodyPost_ret (aV rfl _ _ (w.heap.size+1) 100 _ (0,0) _ _ rfl (HBQ.out.get 1 rfl) Tryd.underlying100 rfl (lQ HWQ.out) rfl) rfl ?_
     have hev:=HSO.out
     rw [if_pos HFL.out] at hev
     refine ⟨_,by rw [hev];rfl,HWQ.out,(fun P h=>?_),HBQ.out.below⟩
     rw [hev] at h
     cases h
     exact ⟨_,_,_,_,HF0.out,HF1.out,HF2.out,HF3.out,HF4.out⟩
    ·have HFL:=acD hf
     have hw:(bits .and .u8 ((r % 256:Nat):Int) 1 == (b:Int))=true:=by rw [ha2];rw [beq_iff_eq];omega
     generalize r % 256=rb at q0 hw
     clear hf ha2
     go_upto_region 13 with fail
     go_upto_region 15 with fail
     have dZ:=acD ((Kept.refl (fun x=>x=w.heap.size+1) wz).drew)
     have eB:=acD (Q0.out.drew)
     refine wp_region_held_drew (S:=(fun w'=>Kept (fun x=>x=w.heap.size+1) wz w')) (by kernel_rfl) (dZ.out) (fun hHeld=>?_)
     generalize wz.drew=wd at dZ eB hHeld ⊢
     refine' wpAnyH_take (i:=0) (oi:=(⟨some 62,_,_,_,_,none⟩:Oper)) (v:=_) rfl (by kernel_rfl) (by kernel_rfl) (by kernel_rfl) (fun _ _ _ h=>h) (yieldsIf_load_mid (by rfl) _ _ rfl _ _ rfl (xr.map (Value.int .i64)) _ ?hS730 Tryd.underlying98 rfl (by rw [acE];exact bJ iK.out)) (by assumption) ?rest730
     case hS730=>(intro w hSw;(try dsimp only at hSw);exact aN (hSw.blk (Q0.out.get 4 rfl) (Q0.out.ne 4 1 rfl rfl (by decide))) 0 _ (by rw [acE];exact au _ _))
     (try simp only [Act.put,sA,sZ,sS])
     refine' wpAnyH_take (i:=1) (oi:=(⟨some 63,_,_,_,_,none⟩:Oper)) (v:=_) rfl (by kernel_rfl) (by kernel_rfl) (by kernel_rfl) (fun _ _ _ h=>h) (yieldsIf_load_mid (by rfl) _ _ rfl _ _ rfl (oN.map (Value.int .i64)) _ ?hS731 Tryd.underlying98 rfl (by rw [acE];exact bJ oL.out)) (by assumption) ?rest731
     case hS731=>(intro w hSw;(try dsimp only at hSw);exact aN (hSw.blk (Q0.out.get 2 rfl) (Q0.out.ne 2 1 rfl rfl (by decide))) 0 _ (by rw [acE];exact au _ _))
     (try simp only [Act.put,sA,sZ,sS])
     refine' wpAnyH_take (i:=3) (oi:=(⟨some 65,_,_,_,_,none⟩:Oper)) (v:=_) rfl (by kernel_rfl) (by kernel_rfl) (by kernel_rfl) (fun _ _ _ h=>h) (yieldsIf_load_mid (by rfl) _ _ rfl _ _ rfl (xr.map (Value.int .i64)) _ ?hS732 Tryd.underlying98 rfl (by rw [acE];exact bJ iK.out)) (by assumption) ?rest732
     case hS732=>(intro w hSw;(try dsimp only at hSw);exact aN (hSw.blk (Q0.out.get 4 rfl) (Q0.out.ne 4 1 rfl rfl (by decide))) 0 _ (by rw [acE];exact au _ _))
     (try simp only [Act.put,sA,sZ,sS])
     refine' wpAnyH_take (i:=4) (oi:=(⟨some 66,_,_,_,_,none⟩:Oper)) (v:=_) rfl (by kernel_rfl) (by kernel_rfl) (by kernel_rfl) (fun _ _ _ h=>h) (yieldsIf_load_mid (by rfl) _ _ rfl _ _ rfl (oN.map (Value.int .i64)) _ ?hS733 Tryd.underlying98 rfl (by rw [acE];exact bJ oL.out)) (by assumption) ?rest733
     case hS733=>(intro w hSw;(try dsimp only at hSw);exact aN (hSw.blk (Q0.out.get 2 rfl) (Q0.out.ne 2 1 rfl rfl (by decide))) 0 _ (by rw [acE];exact au _ _))
     (try simp only [Act.put,sA,sZ,sS])
     refine wpAnyH_ready (rs:=[2]) (by kernel_rfl) (by simp) ?_
     refine AllReadyH.cons (o:=(⟨some 64,_,_,_,_,none⟩:Oper)) rfl (fun K hK=>?_) AllReadyH.nil
     go_simp
     go_at_call 71
     refine (gu 1 _ (by decide)).mono ?_
     rintro e w734 ⟨z734,rfl,h734,Yt⟩
     have HZ734:=acD h734
     have HL734:=acD h734.1
     clear h734
     have HB734:=acD (eB.out.kept Yt)
     have HK734:=acD (dZ.out.trans (Kept.of_below Yt))
     clear Yt
     (try dsimp only)
     clear eB
     clear dZ
     clear hHeld
     refine hK.out _ _ (HK734.out) (fun hHeld=>?_)
     clear hK K
     (try simp only [Act.put,sA,sZ,sS])
     refine wpAnyH_ready (rs:=[5]) (by kernel_rfl) (by simp) ?_
     refine AllReadyH.cons (o:=(⟨some 67,_,_,_,_,none⟩:Oper)) rfl (fun K hK=>?_) AllReadyH.nil
     go_simp
     go_at_call 68
     refine (bL _ _ _ _ _ HXR.out Ei.out).mono ?_
     rintro e w735 ⟨z735,rfl,h735,Yo⟩
     have HZ735:=acD h735
     have HL735:=acD h735.1
     clear h735
     have HB735:=acD (HB734.out.kept Yo)
     have HK735:=acD (HK734.out.trans (Kept.of_below Yo))
     clear Yo
     (try dsimp only)
     clear HB734
     clear HK734
     clear hHeld
     refine hK.out _ _ (HK735.out) (fun hHeld=>?_)
     clear hK K
     (try simp only [Act.put,sA,sZ,sS])
     obtain ⟨v737,Qb⟩:∃ x,x=xr ++ oN ++ z734 ++ z735:=⟨_,rfl⟩
     have HR737:Hid (∀ w,(Instr.build 100 #[(0, .agg (arr .i64 xr)),(1, .agg (arr .i64 oN)),(2, .agg (arr .i64 z734)),(3, .agg (arr .i64 z735))]).run Tryd.prog w = .ok (.agg (arr .i64 v737)) w):=acD (fun w=>by rw [Qb];exact qC _ _ _ _ iK.out oL.out HL734.out HL735.out w)
     have HL737:Hid (v737.length=64):=acD (by rw [Qb];exact zS iK.out oL.out HL734.out HL735.out)
     have HV737:=acD Qb
     clear Qb
     refine wpAnyH_take (i:=6) (oi:=(⟨some 68,_,_,_,_,none⟩:Oper)) (v:=(.agg (arr .i64 v737))) rfl (by kernel_rfl) (by kernel_rfl) (by kernel_rfl) (fun _ _ _ h=>h) (Or.inl ⟨by rfl,?hy736⟩) (by assumption) ?rest736
     case hy736=>(intro w hSw;(try dsimp only at hSw);exact rY 100 _ rfl #[(0, .agg (arr .i64 xr)),(1, .agg (arr .i64 oN)),(2, .agg (arr .i64 z734)),(3, .agg (arr .i64 z735))] rfl _ (HR737.out _))
     (try simp only [Act.put,sA,sZ,sS])
     refine wpAnyH_ready (rs:=[7]) (by kernel_rfl) (by simp) ?_
     refine AllReadyH.cons (o:=(⟨none,_,_,_,_,none⟩:Oper)) rfl (fun K hK=>?_) AllReadyH.nil
     refine aH rfl 100 (.tmp 2) (.tmp 68) rfl (w.heap.size+1) _ _ _ (HB735.out.get 1 rfl) rfl rfl (ay _ _ HL737.out jB.out) (lQ HL737.out) (av _ _) ?_
     intro w738 hb738 XI hz738
     have HB738:=acD (HB735.out.put 1 rfl XI hb738)
     have HK738:=acD (HK735.out.trans XI)
     clear hb738 XI hz738
     clear HB735
     clear HK735
     clear hHeld
     refine hK.out _ _ (HK738.out) (fun hHeld=>?_)
     clear hK K
     (try simp only [Act.put])
     refine wpAnyH_take (i:=8) (oi:=(⟨some 3,_,_,_,_,none⟩:Oper)) (v:=?v739) rfl (by kernel_rfl) (by kernel_rfl) (by kernel_rfl) (fun _ _ _ h=>h) (Or.inl ⟨by rfl,?hy739⟩) (by assumption) ?rest739
     case hy739=>(intro w hSw;(try dsimp only at hSw);go_simp;try (with_reducible rfl))
     (try simp only [Act.put,sA,sZ,sS])
     refine wpAnyH_done (by kernel_rfl) ?_ _
     have HBQ:=HB738
     have HWQ:=HL737
     have HF0:=HV737
     have HF1:=HXR
     have HF2:=Ei
     have HF3:=HZ734
     have HF4:=HZ735
     (try simp only [Exit.then])
     go_wp2_with fail
     refine bodyPost_ret (aV rfl _ _ (w.heap.size+1) 100 _ (0,0) _ _ rfl (HBQ.out.get 1 rfl) Tryd.underlying100 rfl (lQ HWQ.out) rfl) rfl ?_
     have hev:=HSO.out
     rw [if_neg HFL.out] at hev
     refine ⟨_,by rw [hev];rfl,HWQ.out,(fun P h=>?_),HBQ.out.below⟩
     rw [hev] at h
     cases h
     exact ⟨_,_,_,_,HF0.out,HF1.out,HF2.out,HF3.out,HF4.out⟩
end Go.Proofs.YthdgbgleklkaiaaDoor.Rd
