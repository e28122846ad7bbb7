/- The document's read, May. Condition: as each theorem says. -/

import Derived.Test.YthdgbgleklkaiaaDoorQa25
set_option linter.unusedSimpArgs false
set_option linter.unusedVariables false
set_option maxRecDepth 100000
set_option maxHeartbeats 16000000
namespace Go.Proofs.YthdgbgleklkaiaaDoor.Rd
open Go.RowKit Lm Fp Cu
theorem LY (w:World):(Instr.build 23 #[]).run Tryd.prog w = .ok (.agg (arr .u8 (List.replicate 32 0))) w:=by kernel_rfl
theorem and127 (t:Nat) (h:t < 256):bits .and .u8 (t:Int) 127=((t % 128:Nat):Int):=by
 have e:t &&& 127=t % 128:=Nat.and_two_pow_sub_one_eq_mod t 7
 have h1:(BitVec.ofInt 8 (t:Int)).toNat=t:=by rw [BitVec.ofInt_natCast,BitVec.toNat_ofNat];exact Nat.mod_eq_of_lt (by omega)
 have h2:(BitVec.ofInt 8 (127:Int)).toNat=127:=by decide
 show IntKind.u8.wrap ((BitVec.ofInt 8 (t:Int) &&& BitVec.ofInt 8 (127:Int)).toNat:Int)=_
 rw [BitVec.toNat_and,h1,h2,e,IntKind.wrap_u8]
 omega
theorem CV {a b:Nat} (ha:a < 256 ^ 32) (hb:b < 256 ^ 32):(aW (bD 256 32 a) == aW (bD 256 32 b))=decide (a=b):=by
 by_cases e:a=b
 ·subst e;simp
 ·rw [decide_eq_false e,beq_eq_false_iff_ne]
  intro h
  have h3:bD 256 32 a=bD 256 32 b:=by
   have:=congrArg (List.map Int.toNat) h
   have e:∀ l:List Nat,(aW l).map Int.toNat=l:=fun l=>by rw [aW,List.map_map];exact List.map_id l
   rwa [e,e] at this
  have h4:=congrArg (val 256) h3
  rw [yt a ha,yt b hb] at h4
  exact e h4
theorem Tc:(List.replicate 32 0:List Int)=aW (bD 256 32 0):=by decide +kernel
theorem tC (v:Nat) (w:World) (hv:v < 2 ^ 256) (Ri:vG w) (hTi:Si w) :
  Calls Tryd.prog 60 #[.agg (arr .u8 (aW (bD 256 32 v)))] w fun e w'=>∃ zs,e = .returned (.tuple #[.agg (arr .i64 zs), .bool (iQ v).isSome])∧zs.length=64∧(∀ P,iQ v=some P→lZ zs P)∧Below w.heap.size w w':=by
 obtain ⟨y,hy⟩:∃ y,y=v % 2 ^ 255:=⟨_,rfl⟩
 obtain ⟨b,hb⟩:∃ b,b=v / 2 ^ 255:=⟨_,rfl⟩
 have hy2:y < 2 ^ 255:=by rw [hy];exact Nat.mod_lt _ (by decide)
 have hy32:y < 256 ^ 32:=Nat.lt_of_lt_of_le hy2 (by decide)
 obtain ⟨t1,t2⟩:=oK v hv
 have hds:=O8 v hv
 have htb:=top_bit v
 have hb2:b≤1:=by
  rw [hb]
  have:v / 2 ^ 255 < 2:=Nat.div_lt_of_lt_mul (by rw [← Nat.pow_succ];exact hv)
  omega
 rw [← hy] at hds
 rw [← hb] at htb
 generalize v / 256 ^ 31=t at t1 t2 hds htb
 have hbt:(t:Int) / 128=(b:Int):=by omega
 have ha:=and127 t t2
 have hE1:=zR v
 have hE2:=xB v
 have hE3:=xA v
 have hE4:=fun r h1 h2 h3 h4=>LC v r hv h1 h2 h3 h4
 rw [← hy] at hE1 hE2 hE3 hE4
 rw [← hb] at hE3 hE4
 obtain ⟨ev,hev⟩:∃ e,e=iQ v:=⟨_,rfl⟩
 rw [← hev] at hE1 hE2 hE3 hE4 ⊢
 obtain ⟨ns,hns⟩:∃ x,x=aW (bD 256 32 v):=⟨_,rfl⟩
 have xI:Hid (ns.length=32):=Lib.hid (by rw [hns,aH,aI])
 have Lv:ns.getD 31 0=(t:Int):=by rw [hns,bG,t1]
 have hn2:ns.set 31 ((t % 128:Nat):Int)=aW (bD 256 32 y):=by rw [hns,← dn,hds]
 rw [← hns]
 have hin:=fun w=>J8 y w hy32
 have hca:=fun w=>R3 y w hy32
 have hne:(!(aW (bD 256 32 (y % p)) == aW (bD 256 32 y)))=decide (¬ y < p):=by
  rw [CV (Nat.lt_trans (Nat.mod_lt _ yZ) JO) hy32]
  by_cases h:y < p
  ·rw [Nat.mod_eq_of_lt h];simp [h]
  ·have:¬ y % p=y:=by have:=Nat.mod_lt y yZ;omega
   simp [this,h]
 have HY2:=Lib.hid hy2
 obtain ⟨ms,hms⟩:∃ x,x=aW (bD 256 32 y):=⟨_,rfl⟩
 have uG:Hid (ms.length=32):=Lib.hid (by rw [hms,aH,aI])
 obtain ⟨ks,hks⟩:∃ x,x=aW (bD 256 32 (y % p)):=⟨_,rfl⟩
 have l9:Hid (ks.length=32):=Lib.hid (by rw [hks,aH,aI])
 rw [← hms] at hin hca hn2 hne
 rw [← hks] at hca hne
 have HIN:=Lib.hid hin
 have HCA:=Lib.hid hca
 have HNE:=Lib.hid hne
 have HA:=Lib.hid ha
 have HBT:=Lib.hid hbt
 have HE1:=Lib.hid hE1
 have HE2:=Lib.hid hE2
 have HE3:=Lib.hid hE3
 have HE4:=Lib.hid hE4
 have HB2:=Lib.hid hb2
 obtain ⟨dl,hdl⟩:∃ x,x=dL:=⟨_,rfl⟩
 have HD:Hid (El dl dd):=Lib.hid (by rw [hdl];exact dL_el)
 have x9:=Lib.hid HD.out.1
 have HTI:=Lib.hid hTi
 unfold vG at Ri
 rw [← hdl] at Ri
 have HTD:=Lib.hid Ri
 obtain ⟨ze,iH⟩:∃ zs:List Int,zs=List.replicate 16 0:=⟨_,rfl⟩
 have dM:Hid (∀ w,(zeroValue 98).run Tryd.prog w = .ok (.agg (arr .i64 ze)) w):=Lib.hid (by intro w;rw [iH];exact gF w)
 have dB:Hid (ze.length=16):=Lib.hid (by rw [iH];rfl)
 obtain ⟨zn,hzn⟩:∃ zs:List Int,zs=List.replicate 32 0:=⟨_,rfl⟩
 have dx:Hid (∀ w,(zeroValue 23).run Tryd.prog w = .ok (.agg (arr .u8 zn)) w):=Lib.hid (by intro w;rw [hzn];exact zero_num w)
 have cB:Hid (zn.length=32):=Lib.hid (by rw [hzn];rfl)
 obtain ⟨zp,xS⟩:∃ zs:List Int,zs=List.replicate 64 0:=⟨_,rfl⟩
 have xD:Hid (∀ w,(zeroValue 100).run Tryd.prog w = .ok (.agg (arr .i64 zp)) w):=Lib.hid (by intro w;rw [xS];exact mW w)
 have jq:Hid (zp.length=64):=Lib.hid (by rw [xS];rfl)
 have HEz:Hid (El ze 0):=Lib.hid (by rw [iH];exact ED)
 have HNz:Hid (zn=aW (bD 256 32 0)):=Lib.hid (by rw [hzn];exact Tc)
 have BO:Hid (∀ w,(Instr.build 98 #[]).run Tryd.prog w = .ok (.agg (arr .i64 ze)) w):=Lib.hid (by intro w;rw [iH];exact Dc w)
 have HBP:Hid (∀ w,(Instr.build 100 #[]).run Tryd.prog w = .ok (.agg (arr .i64 zp)) w):=Lib.hid (by intro w;rw [xS];exact R7 w)
 have HBN:Hid (∀ w,(Instr.build 23 #[]).run Tryd.prog w = .ok (.agg (arr .u8 zn)) w):=Lib.hid (by intro w;rw [hzn];exact LY w)
 have hS0:=bM.two w (arr .u8 ns) (arr .i64 zp) 23 100
 have q0:=aN (hS0.get 0 rfl) 31 (by rw [xI.out];decide)
 have q1:=aC (hS0.get 0 rfl) 31
 rw [Lv] at q0
 have e2:(arr .u8 ns).setIfInBounds 31 (.int .u8 (bits .and .u8 (t:Int) 127))=arr .u8 ms:=by rw [HA.out,aY,hn2]
 have gY:=Lib.hid ((bM.two w ((arr .u8 ns).setIfInBounds 31 (.int .u8 (bits .and .u8 (t:Int) 127))) (arr .i64 zp) 23 100).cast (l':=[(w.heap.size,arr .u8 ms, 23),(w.heap.size+1,arr .i64 zp, 100)]) (by rw [e2]))
 clear iH hzn xS hdl Ri hTi hin hca hne ha hbt hE1 hE2 hE3 hE4 hb2 hy hb hy2 hy32 t1 hds htb hev hns Lv hn2 hms hks hS0 e2
 go_enter Tryd.func60, Tryd.ntmps60
 go_upto_region 3 with (first|((with_reducible refine aS 2 ?_);refine aj rfl 100 rfl _ (xD.out _) ?_))
 rw [HBT.out]
 generalize ((w.alloc (.cells ((arr .u8 ns).setIfInBounds 31 (.int .u8 (bits .and .u8 (t:Int) 127))) 23)).alloc (.cells (arr .i64 zp) 100))=wb at gY ⊢
 by_cases hyp:y < p
 rotate_left
 ·have hn:=HNE.out
  rw [decide_eq_true hyp] at hn
  have HNB:=Lib.hid hn
  clear hn
  have dU:=Lib.hid ((Kept.refl (fun _=>False) wb).drew)
  have dX:=Lib.hid (gY.out.drew)
  refine wp_region_held_drew (S:=(fun w'=>Kept (fun _=>False) wb w')) (by kernel_rfl) (dU.out) (fun hHeld=>?_)
  generalize wb.drew=wd at dU dX hHeld ⊢
  refine' wpAnyH_take (i:=0) (oi:=(⟨some 17,_,_,_,_,none⟩:Oper)) (v:=_) rfl (by kernel_rfl) (by kernel_rfl) (by kernel_rfl) (fun _ _ _ h=>h) (yieldsIf_load_mid (by rfl) _ _ rfl _ _ rfl (ms.map (Value.int .u8)) _ ?hS701 Tryd.underlying23 rfl (by rw [List.length_map];exact bU uG.out)) (by assumption) ?rest701
  case hS701=>(intro w hSw;(try dsimp only at hSw);exact aM (hSw.blk (gY.out.get 0 rfl) (fun e=>e.elim)) 0 _ (by rw [List.length_map];exact au _ _))
  (try simp only [Act.put,sA,sZ,sS])
  refine' wpAnyH_take (i:=2) (oi:=(⟨some 19,_,_,_,_,none⟩:Oper)) (v:=_) rfl (by kernel_rfl) (by kernel_rfl) (by kernel_rfl) (fun _ _ _ h=>h) (yieldsIf_load_mid (by rfl) _ _ rfl _ _ rfl (ms.map (Value.int .u8)) _ ?hS702 Tryd.underlying23 rfl (by rw [List.length_map];exact bU uG.out)) (by assumption) ?rest702
  case hS702=>(intro w hSw;(try dsimp only at hSw);exact aM (hSw.blk (gY.out.get 0 rfl) (fun e=>e.elim)) 0 _ (by rw [List.length_map];exact au _ _))
  (try simp only [Act.put,sA,sZ,sS])
  refine wpAnyH_ready (rs:=[1]) (by kernel_rfl) (by simp) ?_
  refine AllReadyH.cons (o:=(⟨some 18,_,_,_,_,none⟩:Oper)) rfl (fun K hK=>?_) AllReadyH.nil
  go_simp
  go_at_call 81
  refine (HCA.out _).mono ?_
  rintro e w703 ⟨rfl,WU⟩
  have HB703:=Lib.hid (dX.out.kept WU)
  have HK703:=Lib.hid (dU.out.trans (Kept.of_below WU))
  clear WU
  (try dsimp only)
  clear dX
  clear dU
  clear hHeld
  refine hK.out _ _ (HK703.out) (fun hHeld=>?_)
  clear hK K
  (try simp only [Act.put,sA,sZ,sS])
  refine wpAnyH_take (i:=3) (oi:=(⟨some 20,_,_,_,_,none⟩:Oper)) (v:=(.bool true)) rfl (by kernel_rfl) (by kernel_rfl) (by kernel_rfl) (fun _ _ _ h=>h) (Or.inl ⟨by rfl,?hy704⟩) (by assumption) ?rest704
  case hy704=>(intro w hSw;(try dsimp only at hSw);exact tZ 23 _ _ (.tmp 18) (.tmp 19) rfl 32 .u8 .u8 Tryd.underlying23 Tryd.underlying5 (fun w=>by kernel_rfl) (by kernel_rfl) ks ms rfl rfl l9.out uG.out _ HNB.out)
  (try simp only [Act.put,sA,sZ,sS])
  refine wpAnyH_done (by kernel_rfl) ?_ _
  have qK:=HB703
  clear gY
  (try simp only [Exit.then])
  go_wp2_with (first|((with_reducible refine aS 21 ?_);refine wpList_build (by rfl) 100 _ rfl #[] rfl _ (HBP.out _) ?_)|((with_reducible refine aT 2 ?_);refine ah rfl 100 _ _ rfl (w.heap.size+1) _ _ 100 (qK.out.get 1 rfl) rfl rfl (ay _ _ jq.out jq.out) (lD jq.out) (av _ _) ?_;intro w99 o7 oZ zF;have HBZ:=Lib.hid (qK.out.put 1 rfl oZ o7);clear o7 oZ zF))
  (try simp only [Exit.then])
  refine bodyPost_ret (aP rfl _ _ (w.heap.size+1) 100 _ (0,0) _ _ rfl (HBZ.out.get 1 rfl) Tryd.underlying100 rfl (lD jq.out) rfl) rfl ?_
  have hev:=HE1.out hyp
  exact ⟨zp,by rw [hev];rfl,jq.out,(fun P h=>by rw [hev] at h;cases h),HBZ.out.below⟩
 ·have hn:=HNE.out
  rw [decide_eq_false (fun h=>h hyp)] at hn
  have HNB:=Lib.hid hn
  clear hn
  have dU:=Lib.hid ((Kept.refl (fun _=>False) wb).drew)
  have dX:=Lib.hid (gY.out.drew)
  refine wp_region_held_drew (S:=(fun w'=>Kept (fun _=>False) wb w')) (by kernel_rfl) (dU.out) (fun hHeld=>?_)
  generalize wb.drew=wd at dU dX hHeld ⊢
  refine' wpAnyH_take (i:=0) (oi:=(⟨some 17,_,_,_,_,none⟩:Oper)) (v:=_) rfl (by kernel_rfl) (by kernel_rfl) (by kernel_rfl) (fun _ _ _ h=>h) (yieldsIf_load_mid (by rfl) _ _ rfl _ _ rfl (ms.map (Value.int .u8)) _ ?hS705 Tryd.underlying23 rfl (by rw [List.length_map];exact bU uG.out)) (by assumption) ?rest705
  case hS705=>(intro w hSw;(try dsimp only at hSw);exact aM (hSw.blk (gY.out.get 0 rfl) (fun e=>e.elim)) 0 _ (by rw [List.length_map];exact au _ _))
  (try simp only [Act.put,sA,sZ,sS])
  refine' wpAnyH_take (i:=2) (oi:=(⟨some 19,_,_,_,_,none⟩:Oper)) (v:=_) rfl (by kernel_rfl) (by kernel_rfl) (by kernel_rfl) (fun _ _ _ h=>h) (yieldsIf_load_mid (by rfl) _ _ rfl _ _ rfl (ms.map (Value.int .u8)) _ ?hS706 Tryd.underlying23 rfl (by rw [List.length_map];exact bU uG.out)) (by assumption) ?rest706
  case hS706=>(intro w hSw;(try dsimp only at hSw);exact aM (hSw.blk (gY.out.get 0 rfl) (fun e=>e.elim)) 0 _ (by rw [List.length_map];exact au _ _))
  (try simp only [Act.put,sA,sZ,sS])
  refine wpAnyH_ready (rs:=[1]) (by kernel_rfl) (by simp) ?_
  refine AllReadyH.cons (o:=(⟨some 18,_,_,_,_,none⟩:Oper)) rfl (fun K hK=>?_) AllReadyH.nil
  go_simp
  go_at_call 81
  refine (HCA.out _).mono ?_
  rintro e w707 ⟨rfl,WT⟩
  have HB707:=Lib.hid (dX.out.kept WT)
  have HK707:=Lib.hid (dU.out.trans (Kept.of_below WT))
  clear WT
  (try dsimp only)
  clear dX
  clear dU
  clear hHeld
  refine hK.out _ _ (HK707.out) (fun hHeld=>?_)
  clear hK K
  (try simp only [Act.put,sA,sZ,sS])
  refine wpAnyH_take (i:=3) (oi:=(⟨some 20,_,_,_,_,none⟩:Oper)) (v:=(.bool false)) rfl (by kernel_rfl) (by kernel_rfl) (by kernel_rfl) (fun _ _ _ h=>h) (Or.inl ⟨by rfl,?hy708⟩) (by assumption) ?rest708
  case hy708=>(intro w hSw;(try dsimp only at hSw);exact tZ 23 _ _ (.tmp 18) (.tmp 19) rfl 32 .u8 .u8 Tryd.underlying23 Tryd.underlying5 (fun w=>by kernel_rfl) (by kernel_rfl) ks ms rfl rfl l9.out uG.out _ HNB.out)
  (try simp only [Act.put,sA,sZ,sS])
  refine wpAnyH_done (by kernel_rfl) ?_ _
  have qK:=HB707
  clear gY
  (try simp only [Exit.then])
  have hin2:=HIN.out
  rw [Nat.mod_eq_of_lt hyp] at hin2
  have HINy:=Lib.hid hin2
  clear hin2
  have hbf:=qK.out
  have HBF':=Lib.hid hbf
  clear hbf
  go_upto_region 7 with (first|((with_reducible refine aS 22 ?_);refine ak rfl 23 _ rfl (w.heap.size) (0) _ 23 (0,0) _ (HBF'.out.get 0 rfl) rfl .u8 ms (au _ _) Tryd.underlying23 rfl (bU uG.out) ?_)|((with_reducible show Calls _ 76 #[.agg _] _ _);go_at_call 76; refine (HINy.out _).mono ?_;rintro e w709 ⟨oo,rfl,h709,hb709⟩;have Di:=Lib.hid h709;have oh:=Lib.hid h709.1;clear h709;have HB709:=Lib.hid (HBF'.out.kept hb709);clear hb709)|((with_reducible refine aS 5 ?_);refine aj rfl 98 rfl _ (dM.out _) ?_;have IY:=Lib.hid (HB709.out.alloc (arr .i64 ze) 98);generalize w709.heap.size=Ey at IY ⊢; generalize w709.alloc (.cells (arr .i64 ze) 98)=w710 at IY ⊢; clear HB709)|((with_reducible refine aT 5 (x:=(Operand.tmp 23)) ?_);refine ah rfl 98 _ _ rfl (Ey) _ _ 98 (IY.out.get 2 rfl) rfl rfl (ay _ _ oh.out dB.out) (cO oh.out) (av _ _) ?_;intro w711 hb711 hk711 hz711;have PZ:=Lib.hid (IY.out.put 2 rfl hk711 hb711);clear hb711 hk711 hz711;clear IY)|((with_reducible refine aS 24 ?_);refine ak rfl 98 _ rfl (Ey) (0) _ 98 (0,0) _ (PZ.out.get 2 rfl) rfl .i64 oo (au _ _) Tryd.underlying98 rfl (bI oh.out) ?_)|((with_reducible refine aS 25 ?_);refine ak rfl 98 _ rfl (Ey) (0) _ 98 (0,0) _ (PZ.out.get 2 rfl) rfl .i64 oo (au _ _) Tryd.underlying98 rfl (bI oh.out) ?_)|((with_reducible show Calls _ 68 #[.agg _, .agg _] _ _);go_at_call 68; refine (bJ _ _ _ _ _ Di.out Di.out).mono ?_;rintro e w712 ⟨sM,rfl,h712,hb712⟩;have HZ712:=Lib.hid h712;have PG:=Lib.hid h712.1;clear h712;have HB712:=Lib.hid (PZ.out.kept hb712);clear hb712;clear PZ)|((with_reducible refine aS 6 ?_);refine aj rfl 98 rfl _ (dM.out _) ?_;have IX:=Lib.hid (HB712.out.alloc (arr .i64 ze) 98);generalize w712.heap.size=zM at IX ⊢; generalize w712.alloc (.cells (arr .i64 ze) 98)=w713 at IX ⊢; clear HB712)|((with_reducible refine aT 6 (x:=(Operand.tmp 26)) ?_);refine ah rfl 98 _ _ rfl (zM) _ _ 98 (IX.out.get 3 rfl) rfl rfl (ay _ _ PG.out dB.out) (cO PG.out) (av _ _) ?_;intro w714 hb714 hk714 hz714;have HB714:=Lib.hid (IX.out.put 3 rfl hk714 hb714);clear hb714 hk714 hz714;clear IX))
  (try simp only [Act.put,sA,sZ,sS])
  obtain ⟨U,hU⟩:∃ u,u=under y:=⟨_,rfl⟩
  have hE2:=HE2.out
  have hE3:=HE3.out
  have hE4:=HE4.out
  have hU2:aA (aX (aA y y) 1) (finv (aJ (aA dd (aA y y)) 1))=U:=hU.symm
  rw [← hU] at hE2 hE3 hE4
  have HE2':=Lib.hid hE2
  have HE3':=Lib.hid hE3
  have HE4':=Lib.hid hE4
  have HUU:=Lib.hid hU2
  clear hE2 hE3 hE4 hU hU2
  refine gL (fun (fF:Fill) (uF:World)=>(∀ v,fF 0=some v→v = .agg (arr .i64 sM)∧True)∧(∀ v,fF 1=some v→∃ zs:List Int,v = .agg (arr .i64 zs)∧El zs 1)∧(∀ v,fF 2=some v→∃ zs:List Int,v = .agg (arr .i64 zs)∧El zs (aX (aA y y) 1))∧(∀ v,fF 3=some v→v = .agg (arr .i64 dl)∧True)∧(∀ v,fF 4=some v→v = .agg (arr .i64 sM)∧True)∧(∀ v,fF 5=some v→∃ zs:List Int,v = .agg (arr .i64 zs)∧El zs (aA dd (aA y y)))∧(∀ v,fF 6=some v→∃ zs:List Int,v = .agg (arr .i64 zs)∧El zs 1)∧(∀ v,fF 7=some v→∃ zs:List Int,v = .agg (arr .i64 zs)∧El zs (aJ (aA dd (aA y y)) 1))∧(∀ v,fF 8=some v→∃ zs:List Int,v = .agg (arr .i64 zs)∧El zs (finv (aJ (aA dd (aA y y)) 1)))∧(∀ v,fF 9=some v→∃ zs:List Int,v = .agg (arr .i64 zs)∧El zs (aA (aX (aA y y) 1) (finv (aJ (aA dd (aA y y)) 1))))∧(∀ v,fF 10=some v→∃ zs:List Int,v = .tuple #[.agg (arr .i64 zs), .bool (gy U).2]∧El zs (gy U).1)∧(∀ v,fF 11=some v→∃ zs:List Int,v = .tuple #[.agg (arr .i64 zs), .bool (gy U).2]∧El zs (gy U).1)∧(∀ v,fF 12=some v→∃ zs:List Int,v = .agg (arr .i64 zs)∧El zs (gy U).1)∧(∀ v,fF 13=some v→v = .bool (gy U).2∧True)∧(∀ v,fF 14=some v→∃ g:Nat,v = .pointer (some ⟨g,0,none⟩))∧(∀ v,fF 16=some v→v = .bool (gy U).2∧True)∧bM w uF ([(w.heap.size,arr .u8 ms, 23),(w.heap.size+1,arr .i64 zp, 100),(Ey,arr .i64 oo, 98),(zM,arr .i64 sM, 98)] ++ (ent (fF 14) ((if (fF 15).isSome=true then Zz (fF 12) else arr .i64 ze)) 98))) (by kernel_rfl) (by kernel_rfl) ?zd7 ?sd7 ?ed7
  case zd7=>exact ⟨fun _ h=>(by cases h),fun _ h=>(by cases h),fun _ h=>(by cases h),fun _ h=>(by cases h),fun _ h=>(by cases h),fun _ h=>(by cases h),fun _ h=>(by cases h),fun _ h=>(by cases h),fun _ h=>(by cases h),fun _ h=>(by cases h),fun _ h=>(by cases h),fun _ h=>(by cases h),fun _ h=>(by cases h),fun _ h=>(by cases h),fun _ h=>(by cases h),fun _ h=>(by cases h),HB714.out.drew⟩
  case sd7 =>
   refine bH.cons (fun fF bF uF kF eZ jO lX bZ fD gJ=>?_) ?_
   ·obtain ⟨j0,j1,j2,j3,j4,j5,j6,j7,j8,j9,j10,j11,j12,j13,oF,oQ,hB⟩:=eZ
    have e6:bF.eval (.tmp 6) = .pointer (some ⟨zM,0,none⟩):=fD.old' 6 (by kernel_rfl) rfl
    have hB':=hB
    refine eO rfl 98 _ rfl (zM) (0) (arr .i64 sM) 98 (0,0) _ (hB'.get 3 rfl) e6 .i64 sM (au _ _) Tryd.underlying98 rfl (bI PG.out) ?_
    exact gJ _ _ ⟨fun _ h=>⟨sI h,trivial⟩,j1,j2,j3,j4,j5,j6,j7,j8,j9,j10,j11,j12,j13,oF,oQ,hB⟩
   refine bH.cons (fun fF bF uF kF eZ jO lX bZ fD gJ=>?_) ?_
   ·obtain ⟨j0,j1,j2,j3,j4,j5,j6,j7,j8,j9,j10,j11,j12,j13,oF,oQ,hB⟩:=eZ
    refine fA rfl 71 [Operand.const (Value.int IntKind.i64 1)] _ [.int .i64 1] rfl (by simp only [List.map_cons,List.map_nil] <;> rfl) (fun _ _=>by kernel_rfl) ?_
    refine Calls.mono (fO 1 _ (by decide)) ?_
    rintro e w1 ⟨zq,rfl,rq,hb⟩
    exact ⟨_,rfl,gJ _ _ ⟨j0,fun _ h=>⟨zq,sI h,rq⟩,j2,j3,j4,j5,j6,j7,j8,j9,j10,j11,j12,j13,oF,oQ,hB.kept hb⟩⟩
   refine bH.cons (fun fF bF uF kF eZ jO lX bZ fD gJ=>?_) ?_
   ·obtain ⟨j0,j1,j2,j3,j4,j5,j6,j7,j8,j9,j10,j11,j12,j13,oF,oQ,hB⟩:=eZ
    obtain ⟨e28,p28⟩:=fD.at bZ 0 28 (by kernel_rfl) rfl j0
    have y1:=bZ 1 (by kernel_rfl)
    obtain ⟨v1,s1⟩:=sE y1
    obtain ⟨xd7_1,rfl,r1⟩:=j1 _ s1
    have Rd7_1:=Lib.hid r1
    have HLd7_1:=Lib.hid (r1.1)
    have e29:=fD.val 1 29 rfl s1
    refine fA rfl 78 [Operand.tmp 28,Operand.tmp 29] _ [.agg (arr .i64 sM), .agg (arr .i64 xd7_1)] rfl (by simp only [List.map_cons,List.map_nil,e28,e29] <;> rfl) (fun _ _=>by kernel_rfl) ?_
    refine Calls.mono (je _ _ _ _ _ HZ712.out Rd7_1.out) ?_
    rintro e w1 ⟨zq,rfl,rq,hb⟩
    exact ⟨_,rfl,gJ _ _ ⟨j0,j1,fun _ h=>⟨zq,sI h,rq⟩,j3,j4,j5,j6,j7,j8,j9,j10,j11,j12,j13,oF,oQ,hB.kept hb⟩⟩
   refine bH.cons (fun fF bF uF kF eZ jO lX bZ fD gJ=>?_) ?_
   ·obtain ⟨j0,j1,j2,j3,j4,j5,j6,j7,j8,j9,j10,j11,j12,j13,oF,oQ,hB⟩:=eZ
    rw [if_pos (by simp [Region.wanted])]
    refine wp_load_mid 98 (.global 3) rfl 3 0 rfl (dl.map (Value.int .i64)) _ (bA HTD.out hB.below) Tryd.underlying98 rfl (by rw [List.length_map];exact bI x9.out) ?_
    exact gJ _ _ ⟨j0,j1,j2,fun _ h=>⟨sI h,trivial⟩,j4,j5,j6,j7,j8,j9,j10,j11,j12,j13,oF,oQ,hB⟩
   refine bH.cons (fun fF bF uF kF eZ jO lX bZ fD gJ=>?_) ?_
   ·obtain ⟨j0,j1,j2,j3,j4,j5,j6,j7,j8,j9,j10,j11,j12,j13,oF,oQ,hB⟩:=eZ
    have e6:bF.eval (.tmp 6) = .pointer (some ⟨zM,0,none⟩):=fD.old' 6 (by kernel_rfl) rfl
    have hB':=hB
    refine eO rfl 98 _ rfl (zM) (0) (arr .i64 sM) 98 (0,0) _ (hB'.get 3 rfl) e6 .i64 sM (au _ _) Tryd.underlying98 rfl (bI PG.out) ?_
    exact gJ _ _ ⟨j0,j1,j2,j3,fun _ h=>⟨sI h,trivial⟩,j5,j6,j7,j8,j9,j10,j11,j12,j13,oF,oQ,hB⟩
   refine bH.cons (fun fF bF uF kF eZ jO lX bZ fD gJ=>?_) ?_
   ·obtain ⟨j0,j1,j2,j3,j4,j5,j6,j7,j8,j9,j10,j11,j12,j13,oF,oQ,hB⟩:=eZ
    obtain ⟨e31,p31⟩:=fD.at bZ 3 31 (by kernel_rfl) rfl j3
    obtain ⟨e32,p32⟩:=fD.at bZ 4 32 (by kernel_rfl) rfl j4
    refine fA rfl 68 [Operand.tmp 31,Operand.tmp 32] _ [.agg (arr .i64 dl), .agg (arr .i64 sM)] rfl (by simp only [List.map_cons,List.map_nil,e31,e32] <;> rfl) (fun _ _=>by kernel_rfl) ?_
    refine Calls.mono (bJ _ _ _ _ _ HD.out HZ712.out) ?_
    rintro e w1 ⟨zq,rfl,rq,hb⟩
    exact ⟨_,rfl,gJ _ _ ⟨j0,j1,j2,j3,j4,fun _ h=>⟨zq,sI h,rq⟩,j6,j7,j8,j9,j10,j11,j12,j13,oF,oQ,hB.kept hb⟩⟩
   refine bH.cons (fun fF bF uF kF eZ jO lX bZ fD gJ=>?_) ?_
   ·obtain ⟨j0,j1,j2,j3,j4,j5,j6,j7,j8,j9,j10,j11,j12,j13,oF,oQ,hB⟩:=eZ
    refine fA rfl 71 [Operand.const (Value.int IntKind.i64 1)] _ [.int .i64 1] rfl (by simp only [List.map_cons,List.map_nil] <;> rfl) (fun _ _=>by kernel_rfl) ?_
    refine Calls.mono (fO 1 _ (by decide)) ?_
    rintro e w1 ⟨zq,rfl,rq,hb⟩
    exact ⟨_,rfl,gJ _ _ ⟨j0,j1,j2,j3,j4,j5,fun _ h=>⟨zq,sI h,rq⟩,j7,j8,j9,j10,j11,j12,j13,oF,oQ,hB.kept hb⟩⟩
   refine bH.cons (fun fF bF uF kF eZ jO lX bZ fD gJ=>?_) ?_
   ·obtain ⟨j0,j1,j2,j3,j4,j5,j6,j7,j8,j9,j10,j11,j12,j13,oF,oQ,hB⟩:=eZ
    have y5:=bZ 5 (by kernel_rfl)
    obtain ⟨v5,s5⟩:=sE y5
    obtain ⟨xd7_5,rfl,r5⟩:=j5 _ s5
    have Rd7_5:=Lib.hid r5
    have HLd7_5:=Lib.hid (r5.1)
    have e33:=fD.val 5 33 rfl s5
    have y6:=bZ 6 (by kernel_rfl)
    obtain ⟨v6,s6⟩:=sE y6
    obtain ⟨xd7_6,rfl,r6⟩:=j6 _ s6
    have Rd7_6:=Lib.hid r6
    have HLd7_6:=Lib.hid (r6.1)
    have e34:=fD.val 6 34 rfl s6
    refine fA rfl 77 [Operand.tmp 33,Operand.tmp 34] _ [.agg (arr .i64 xd7_5), .agg (arr .i64 xd7_6)] rfl (by simp only [List.map_cons,List.map_nil,e33,e34] <;> rfl) (fun _ _=>by kernel_rfl) ?_
    refine Calls.mono (iR _ _ _ _ _ Rd7_5.out Rd7_6.out) ?_
    rintro e w1 ⟨zq,rfl,rq,hb⟩
    exact ⟨_,rfl,gJ _ _ ⟨j0,j1,j2,j3,j4,j5,j6,fun _ h=>⟨zq,sI h,rq⟩,j8,j9,j10,j11,j12,j13,oF,oQ,hB.kept hb⟩⟩
   refine bH.cons (fun fF bF uF kF eZ jO lX bZ fD gJ=>?_) ?_
   ·obtain ⟨j0,j1,j2,j3,j4,j5,j6,j7,j8,j9,j10,j11,j12,j13,oF,oQ,hB⟩:=eZ
    have y7:=bZ 7 (by kernel_rfl)
    obtain ⟨v7,s7⟩:=sE y7
    obtain ⟨xd7_7,rfl,r7⟩:=j7 _ s7
    have Rd7_7:=Lib.hid r7
    have HLd7_7:=Lib.hid (r7.1)
    have e35:=fD.val 7 35 rfl s7
    refine fA rfl 66 [Operand.tmp 35] _ [.agg (arr .i64 xd7_7)] rfl (by simp only [List.map_cons,List.map_nil,e35] <;> rfl) (fun _ _=>by kernel_rfl) ?_
    refine Calls.mono (Er _ _ _ Rd7_7.out) ?_
    rintro e w1 ⟨zq,rfl,rq,hb⟩
    exact ⟨_,rfl,gJ _ _ ⟨j0,j1,j2,j3,j4,j5,j6,j7,fun _ h=>⟨zq,sI h,rq⟩,j9,j10,j11,j12,j13,oF,oQ,hB.kept hb⟩⟩
   refine bH.cons (fun fF bF uF kF eZ jO lX bZ fD gJ=>?_) ?_
   ·obtain ⟨j0,j1,j2,j3,j4,j5,j6,j7,j8,j9,j10,j11,j12,j13,oF,oQ,hB⟩:=eZ
    have y2:=bZ 2 (by kernel_rfl)
    obtain ⟨v2,s2⟩:=sE y2
    obtain ⟨xd7_2,rfl,r2⟩:=j2 _ s2
    have Rd7_2:=Lib.hid r2
    have HLd7_2:=Lib.hid (r2.1)
    have e30:=fD.val 2 30 rfl s2
    have y8:=bZ 8 (by kernel_rfl)
    obtain ⟨v8,s8⟩:=sE y8
    obtain ⟨xd7_8,rfl,r8⟩:=j8 _ s8
    have Rd7_8:=Lib.hid r8
    have HLd7_8:=Lib.hid (r8.1)
    have e36:=fD.val 8 36 rfl s8
    refine fA rfl 68 [Operand.tmp 30,Operand.tmp 36] _ [.agg (arr .i64 xd7_2), .agg (arr .i64 xd7_8)] rfl (by simp only [List.map_cons,List.map_nil,e30,e36] <;> rfl) (fun _ _=>by kernel_rfl) ?_
    refine Calls.mono (bJ _ _ _ _ _ Rd7_2.out Rd7_8.out) ?_
    rintro e w1 ⟨zq,rfl,rq,hb⟩
    exact ⟨_,rfl,gJ _ _ ⟨j0,j1,j2,j3,j4,j5,j6,j7,j8,fun _ h=>⟨zq,sI h,rq⟩,j10,j11,j12,j13,oF,oQ,hB.kept hb⟩⟩
   refine bH.cons (fun fF bF uF kF eZ jO lX bZ fD gJ=>?_) ?_
   ·obtain ⟨j0,j1,j2,j3,j4,j5,j6,j7,j8,j9,j10,j11,j12,j13,oF,oQ,hB⟩:=eZ
    have y9:=bZ 9 (by kernel_rfl)
    obtain ⟨v9,s9⟩:=sE y9
    obtain ⟨xd7_9,rfl,r9⟩:=j9 _ s9
    have Rd7_9:=Lib.hid r9
    have HLd7_9:=Lib.hid (r9.1)
    have e37:=fD.val 9 37 rfl s9
    refine fA rfl 82 [Operand.tmp 37] _ [.agg (arr .i64 xd7_9)] rfl (by simp only [List.map_cons,List.map_nil,e37] <;> rfl) (fun _ _=>by kernel_rfl) ?_
    refine Calls.mono (Us _ U _ (by rw [← HUU.out];exact Rd7_9.out) (bA HTI.out hB.below)) ?_
    rintro e w1 ⟨zq,rfl,rq,hb⟩
    exact ⟨_,rfl,gJ _ _ ⟨j0,j1,j2,j3,j4,j5,j6,j7,j8,j9,fun _ h=>⟨zq,sI h,rq⟩,j11,j12,j13,oF,oQ,hB.kept hb⟩⟩
   refine bH.cons (fun fF bF uF kF eZ jO lX bZ fD gJ=>?_) ?_
   ·obtain ⟨j0,j1,j2,j3,j4,j5,j6,j7,j8,j9,j10,j11,j12,j13,oF,oQ,hB⟩:=eZ
    have y10:=bZ 10 (by kernel_rfl)
    obtain ⟨v10,s10⟩:=sE y10
    obtain ⟨Jp,rfl,r10⟩:=j10 _ s10
    have ZH:=Lib.hid r10
    have HLd7_10:=Lib.hid (r10.1)
    have e38:=fD.val 10 38 rfl s10
    exact dY rfl (.tuple #[.agg (arr .i64 Jp), .bool (gy U).2]) (by simp only [execOp,e38] <;> first|rfl|kernel_rfl|(go_simp;done)) (gJ _ _ ⟨j0,j1,j2,j3,j4,j5,j6,j7,j8,j9,j10,fun _ h=>⟨Jp,sI h,ZH.out⟩,j12,j13,oF,oQ,hB⟩)
   refine bH.cons (fun fF bF uF kF eZ jO lX bZ fD gJ=>?_) ?_
   ·obtain ⟨j0,j1,j2,j3,j4,j5,j6,j7,j8,j9,j10,j11,j12,j13,oF,oQ,hB⟩:=eZ
    have y11:=bZ 11 (by kernel_rfl)
    obtain ⟨v11,s11⟩:=sE y11
    obtain ⟨Du,rfl,r11⟩:=j11 _ s11
    have Mq:=Lib.hid r11
    have PE:=Lib.hid (r11.1)
    have e27:=fD.val 11 27 rfl s11
    have n15:=lX.down 15 12 (by kernel_rfl) jO
    exact dY rfl (.agg (arr .i64 Du)) (by simp only [execOp,e27] <;> first|rfl|kernel_rfl|(go_simp;done)) (gJ _ _ ⟨j0,j1,j2,j3,j4,j5,j6,j7,j8,j9,j10,j11,fun _ h=>⟨Du,sI h,Mq.out⟩,j13,oF,oQ,(by have h:=hB;rw [n15] at h;rw [TV n15];exact h;decide)⟩)
   refine bH.cons (fun fF bF uF kF eZ jO lX bZ fD gJ=>?_) ?_
   ·obtain ⟨j0,j1,j2,j3,j4,j5,j6,j7,j8,j9,j10,j11,j12,j13,oF,oQ,hB⟩:=eZ
    have y11:=bZ 11 (by kernel_rfl)
    obtain ⟨v11,s11⟩:=sE y11
    obtain ⟨Du,rfl,r11⟩:=j11 _ s11
    have Mq:=Lib.hid r11
    have PE:=Lib.hid (r11.1)
    have e27:=fD.val 11 27 rfl s11
    exact dY rfl (.bool (gy U).2) (by simp only [execOp,e27] <;> first|rfl|kernel_rfl|(go_simp;done)) (gJ _ _ ⟨j0,j1,j2,j3,j4,j5,j6,j7,j8,j9,j10,j11,j12,fun _ h=>⟨sI h,trivial⟩,oF,oQ,hB⟩)
   refine bH.cons (fun fF bF uF kF eZ jO lX bZ fD gJ=>?_) ?_
   ·obtain ⟨j0,j1,j2,j3,j4,j5,j6,j7,j8,j9,j10,j11,j12,j13,oF,oQ,hB⟩:=eZ
    have n15:=lX.down 15 14 (by kernel_rfl) jO
    refine bg rfl 98 rfl _ (dM.out _) ?_
    have hB1:bM w (uF.alloc (.cells (arr .i64 ze) 98)) ([(w.heap.size,arr .u8 ms, 23),(w.heap.size+1,arr .i64 zp, 100),(Ey,arr .i64 oo, 98),(zM,arr .i64 sM, 98)] ++ (ent ((some (.pointer (some ⟨uF.heap.size,0,none⟩)):Option Value)) ((if (fF 15).isSome=true then Zz (fF 12) else arr .i64 ze)) 98)):=hB.ins (a:=[(w.heap.size,arr .u8 ms, 23),(w.heap.size+1,arr .i64 zp, 100),(Ey,arr .i64 oo, 98),(zM,arr .i64 sM, 98)]) (b:=[]) _ _ (by rw [jO,n15];simp only [uf,List.nil_append,List.append_nil,List.append_assoc,List.cons_append]) (by rw [n15];simp only [zS,List.nil_append,List.append_nil,List.append_assoc,List.cons_append,Option.isSome_none,Bool.false_eq_true,if_false])
    exact gJ _ _ ⟨j0,j1,j2,j3,j4,j5,j6,j7,j8,j9,j10,j11,j12,j13,fun _ h=>⟨_,sI h⟩,oQ,hB1⟩
   refine bH.cons (fun fF bF uF kF eZ jO lX bZ fD gJ=>?_) ?_
   ·obtain ⟨j0,j1,j2,j3,j4,j5,j6,j7,j8,j9,j10,j11,j12,j13,oF,oQ,hB⟩:=eZ
    have y14:=bZ 14 (by kernel_rfl)
    obtain ⟨v14,s14⟩:=sE y14
    obtain ⟨O1,rfl⟩:=oF _ s14
    have e7:=fD.val 14 7 rfl s14
    have y12:=bZ 12 (by kernel_rfl)
    obtain ⟨v12,s12⟩:=sE y12
    obtain ⟨Jo,rfl,r12⟩:=j12 _ s12
    have Ml:=Lib.hid r12
    have xZ:=Lib.hid (r12.1)
    have e39:=fD.val 12 39 rfl s12
    have hB':=hB
    rw [s14,s12,jO] at hB'
    refine aD rfl 98 (.tmp 7) (.tmp 39) rfl (O1) (arr .i64 ze) _ 98 (hB'.get 4 rfl) e7 e39 (ay _ _ xZ.out dB.out) (cO xZ.out) (av _ _) ?_
    intro w1 hb1 hk1 hz1
    have hB1:bM w w1 ([(w.heap.size,arr .u8 ms, 23),(w.heap.size+1,arr .i64 zp, 100),(Ey,arr .i64 oo, 98),(zM,arr .i64 sM, 98)] ++ (ent (fF 14) ((if ((some undef:Option Value)).isSome=true then Zz (fF 12) else arr .i64 ze)) 98)):=by rw [s14,s12];exact hB'.put 4 rfl hk1 hb1
    exact gJ undef w1 ⟨j0,j1,j2,j3,j4,j5,j6,j7,j8,j9,j10,j11,j12,j13,oF,oQ,hB1⟩
   refine bH.cons (fun fF bF uF kF eZ jO lX bZ fD gJ=>?_) ?_
   ·obtain ⟨j0,j1,j2,j3,j4,j5,j6,j7,j8,j9,j10,j11,j12,j13,oF,oQ,hB⟩:=eZ
    obtain ⟨e40,p40⟩:=fD.at bZ 13 40 (by kernel_rfl) rfl j13
    exact dY rfl (.bool (gy U).2) (by simp only [execOp,e40] <;> first|rfl|kernel_rfl|(go_simp;done)) (gJ _ _ ⟨j0,j1,j2,j3,j4,j5,j6,j7,j8,j9,j10,j11,j12,j13,oF,fun _ h=>⟨sI h,trivial⟩,hB⟩)
   exact bH.nil
  case ed7 =>
  intro fF ud7 hall eZ
  obtain ⟨j0,j1,j2,j3,j4,j5,j6,j7,j8,j9,j10,j11,j12,j13,oF,oQ,hB⟩:=eZ
  obtain ⟨v0,h0⟩:=sE (hall 0 (by decide))
  obtain ⟨rfl,p0⟩:=j0 _ h0
  obtain ⟨v1,h1⟩:=sE (hall 1 (by decide))
  obtain ⟨xd7_1,rfl,r1⟩:=j1 _ h1
  have Rd7_1:=Lib.hid r1
  have HLd7_1:=Lib.hid (r1.1)
  clear r1
  obtain ⟨v2,h2⟩:=sE (hall 2 (by decide))
  obtain ⟨xd7_2,rfl,r2⟩:=j2 _ h2
  have Rd7_2:=Lib.hid r2
  have HLd7_2:=Lib.hid (r2.1)
  clear r2
  obtain ⟨v3,h3⟩:=sE (hall 3 (by decide))
  obtain ⟨rfl,p3⟩:=j3 _ h3
  obtain ⟨v4,h4⟩:=sE (hall 4 (by decide))
  obtain ⟨rfl,p4⟩:=j4 _ h4
  obtain ⟨v5,h5⟩:=sE (hall 5 (by decide))
  obtain ⟨xd7_5,rfl,r5⟩:=j5 _ h5
  have Rd7_5:=Lib.hid r5
  have HLd7_5:=Lib.hid (r5.1)
  clear r5
  obtain ⟨v6,h6⟩:=sE (hall 6 (by decide))
  obtain ⟨xd7_6,rfl,r6⟩:=j6 _ h6
  have Rd7_6:=Lib.hid r6
  have HLd7_6:=Lib.hid (r6.1)
  clear r6
  obtain ⟨v7,h7⟩:=sE (hall 7 (by decide))
  obtain ⟨xd7_7,rfl,r7⟩:=j7 _ h7
  have Rd7_7:=Lib.hid r7
  have HLd7_7:=Lib.hid (r7.1)
  clear r7
  obtain ⟨v8,h8⟩:=sE (hall 8 (by decide))
  obtain ⟨xd7_8,rfl,r8⟩:=j8 _ h8
  have Rd7_8:=Lib.hid r8
  have HLd7_8:=Lib.hid (r8.1)
  clear r8
  obtain ⟨v9,h9⟩:=sE (hall 9 (by decide))
  obtain ⟨xd7_9,rfl,r9⟩:=j9 _ h9
  have Rd7_9:=Lib.hid r9
  have HLd7_9:=Lib.hid (r9.1)
  clear r9
  obtain ⟨v10,h10⟩:=sE (hall 10 (by decide))
  obtain ⟨Jp,rfl,r10⟩:=j10 _ h10
  have ZH:=Lib.hid r10
  have HLd7_10:=Lib.hid (r10.1)
  clear r10
  obtain ⟨v11,h11⟩:=sE (hall 11 (by decide))
  obtain ⟨Du,rfl,r11⟩:=j11 _ h11
  have Mq:=Lib.hid r11
  have PE:=Lib.hid (r11.1)
  clear r11
  obtain ⟨v12,h12⟩:=sE (hall 12 (by decide))
  obtain ⟨Jo,rfl,r12⟩:=j12 _ h12
  have Ml:=Lib.hid r12
  have xZ:=Lib.hid (r12.1)
  clear r12
  obtain ⟨v13,h13⟩:=sE (hall 13 (by decide))
  obtain ⟨rfl,p13⟩:=j13 _ h13
  obtain ⟨v14,h14⟩:=sE (hall 14 (by decide))
  obtain ⟨O1,rfl⟩:=oF _ h14
  obtain ⟨v15,h15⟩:=sE (hall 15 (by decide))
  obtain ⟨v16,h16⟩:=sE (hall 16 (by decide))
  obtain ⟨rfl,p16⟩:=oQ _ h16
  rw [h14,h15,h12] at hB
  have HBd7:Hid (bM w ud7 [(w.heap.size,arr .u8 ms, 23),(w.heap.size+1,arr .i64 zp, 100),(Ey,arr .i64 oo, 98),(zM,arr .i64 sM, 98),(O1,arr .i64 Jo, 98)]):=Lib.hid hB
  simp only [laid,Nat.zero_add,Nat.reduceAdd,h0,h1,h2,h3,h4,h5,h6,h7,h8,h9,h10,h11,h12,h13,h14,h15,h16,Act.put,sA,sZ,sS]
  clear j0 j1 j2 j3 j4 j5 j6 j7 j8 j9 j10 j11 j12 j13 oF oQ hB h0 h1 h2 h3 h4 h5 h6 h7 h8 h9 h10 h11 h12 h13 h14 h15 h16 hall fF HB714
  clear p0 p3 p4 p13 p16
  (try simp only [Exit.then])
  have fM:=HBd7
  have HXR:=Ml
  have iG:=xZ
  clear HBd7 Ml
  generalize Jo=xr at fM HXR iG ⊢
  generalize ud7=wy at fM ⊢
  generalize O1=gx at fM ⊢
  obtain ⟨r,hr⟩:∃ r,r=(gy U).1:=⟨_,rfl⟩
  have HR:=Lib.hid hr
  rw [← hr] at HXR
  have hrl:r < p:=by rw [hr];exact Gv U
  have iK:=Lib.hid hrl
  clear hr hrl
  cases hok:(gy U).2 with
  | false =>
   have Z8:=Lib.hid hok
   clear hok
   go_wp2_with (first|((with_reducible refine aS 43 ?_);refine wpList_build (by rfl) 100 _ rfl #[] rfl _ (HBP.out _) ?_)|((with_reducible refine aT 2 ?_);refine ah rfl 100 _ _ rfl (w.heap.size+1) _ _ 100 (fM.out.get 1 rfl) rfl rfl (ay _ _ jq.out jq.out) (lD jq.out) (av _ _) ?_;intro w99 o7 oZ zF;have HBZ:=Lib.hid (fM.out.put 1 rfl oZ o7);clear o7 oZ zF))
   (try simp only [Exit.then])
   refine bodyPost_ret (aP rfl _ _ (w.heap.size+1) 100 _ (0,0) _ _ rfl (HBZ.out.get 1 rfl) Tryd.underlying100 rfl (lD jq.out) rfl) rfl ?_
   have hev:=HE2'.out Z8.out
   exact ⟨zp,by rw [hev];rfl,jq.out,(fun P h=>by rw [hev] at h;cases h),HBZ.out.below⟩
  | true =>
   have Z8:=Lib.hid hok
   clear hok
   have how:=fun w=>nD xr r w HXR.out
   have hz:=CV (Nat.lt_trans iK.out JO) (show 0 < 256 ^ 32 by decide)
   rw [← HNz.out] at hz
   have hlo:(aW (bD 256 32 r)).getD 0 0=((r % 256:Nat):Int):=by rw [bG,zk]
   obtain ⟨rw8,hrw⟩:∃ x,x=aW (bD 256 32 r):=⟨_,rfl⟩
   have vN:Hid (rw8.length=32):=Lib.hid (by rw [hrw,aH,aI])
   rw [← hrw] at how hz hlo
   have HOW:=Lib.hid how
   have ZJ:=Lib.hid hz
   have HLO:=Lib.hid hlo
   clear how hz hlo hrw
   go_upto_region 11 with (first|((with_reducible refine aS 44 ?_);refine ak rfl 98 _ rfl (gx) (0) _ 98 (0,0) _ (fM.out.get 4 rfl) rfl .i64 xr (au _ _) Tryd.underlying98 rfl (bI iG.out) ?_)|((with_reducible show Calls _ 67 #[.agg _] _ _);go_at_call 67; refine (HOW.out _).mono ?_;rintro e w715 ⟨rfl,hb715⟩;have HB715:=Lib.hid (fM.out.kept hb715);clear hb715)|((with_reducible refine aS 9 ?_);refine aj rfl 23 rfl _ (dx.out _) ?_;have IW:=Lib.hid (HB715.out.alloc (arr .u8 zn) 23);generalize w715.heap.size=Y5 at IW ⊢; generalize w715.alloc (.cells (arr .u8 zn) 23)=w716 at IW ⊢; clear HB715)|((with_reducible refine aT 9 (x:=(Operand.tmp 45)) ?_);refine ah rfl 23 _ _ rfl (Y5) _ _ 23 (IW.out.get 5 rfl) rfl rfl (ay _ _ vN.out cB.out) (bE vN.out) (av _ _) ?_;intro w717 hb717 hk717 hz717;have Ay:=Lib.hid (IW.out.put 5 rfl hk717 hb717);clear hb717 hk717 hz717;clear IW))
   (try simp only [World.size_alloc,Act.put,sA,sZ,sS])
   by_cases hz:r=0∧b=1
   ·obtain ⟨hz1,hz2⟩:=hz
    have hzb:=ZJ.out
    rw [decide_eq_true hz1] at hzb
    have HZB:=Lib.hid hzb
    have HNO:=Lib.hid (HE3'.out hz2 (by rw [← HR.out];exact hz1))
    have hb1:((b:Int) == 1)=true:=by rw [hz2];rfl
    clear hzb hz1 hz2
    go_upto_region 12 with (first|((with_reducible refine aS 46 ?_);refine ak rfl 23 _ rfl (Y5) 0 _ 23 (0,0) _ (Ay.out.get 5 rfl) rfl .u8 rw8 (au _ _) Tryd.underlying23 rfl (bU vN.out) ?_)|((with_reducible refine aS 47 ?_);refine wpList_build (by rfl) 23 _ rfl #[] rfl _ (HBN.out _) ?_)|((with_reducible refine aS 48 ?_);refine gZ (by rfl) 23 _ _ (.tmp 46) (.tmp 47) rfl 32 .u8 .u8 Tryd.underlying23 Tryd.underlying5 (fun w=>by kernel_rfl) (by kernel_rfl) rw8 zn rfl rfl vN.out cB.out true HZB.out ?_))
    go_wp2_with (first|((with_reducible refine aS 53 ?_);refine wpList_build (by rfl) 100 _ rfl #[] rfl _ (HBP.out _) ?_)|((with_reducible refine aT 2 ?_);refine ah rfl 100 _ _ rfl (w.heap.size+1) _ _ 100 (Ay.out.get 1 rfl) rfl rfl (ay _ _ jq.out jq.out) (lD jq.out) (av _ _) ?_;intro w99 o7 oZ zF;have HBZ:=Lib.hid (Ay.out.put 1 rfl oZ o7);clear o7 oZ zF))
    (try simp only [Exit.then])
    refine bodyPost_ret (aP rfl _ _ (w.heap.size+1) 100 _ (0,0) _ _ rfl (HBZ.out.get 1 rfl) Tryd.underlying100 rfl (lD jq.out) rfl) rfl ?_
    have hev:=HNO.out
    exact ⟨zp,by rw [hev];rfl,jq.out,(fun P h=>by rw [hev] at h;cases h),HBZ.out.below⟩
   ·have HSO:=Lib.hid (HE4'.out r hyp HR.out.symm Z8.out hz)
    have hzk:=Lib.hid hz
    go_cut [52] (fun v52 wx=>v52 = .bool false∧bM w wx [(w.heap.size,arr .u8 ms, 23),(w.heap.size+1,arr .i64 zp, 100),(Ey,arr .i64 oo, 98),(zM,arr .i64 sM, 98),(gx,arr .i64 xr, 98),(Y5,(arr .u8 rw8), 23)])
    case first =>
     by_cases hz1:r=0
     ·have hzb:=ZJ.out
      rw [decide_eq_true hz1] at hzb
      have HZB:=Lib.hid hzb
      clear hzb hz
      have hb0:((b:Int) == 1)=false:=by rw [beq_eq_false_iff_ne];have:=HB2.out;have:¬ b=1:=fun e=>hzk.out ⟨hz1,e⟩;omega
      go_wp2_with (first|((with_reducible refine aS 46 ?_);refine ak rfl 23 _ rfl (Y5) 0 _ 23 (0,0) _ (Ay.out.get 5 rfl) rfl .u8 rw8 (au _ _) Tryd.underlying23 rfl (bU vN.out) ?_)|((with_reducible refine aS 47 ?_);refine wpList_build (by rfl) 23 _ rfl #[] rfl _ (HBN.out _) ?_)|((with_reducible refine aS 48 ?_);refine gZ (by rfl) 23 _ _ (.tmp 46) (.tmp 47) rfl 32 .u8 .u8 Tryd.underlying23 Tryd.underlying5 (fun w=>by kernel_rfl) (by kernel_rfl) rw8 zn rfl rfl vN.out cB.out true HZB.out ?_))
      go_meet
      exact ⟨rfl,Ay.out⟩
     ·have hzb:=ZJ.out
      rw [decide_eq_false hz1] at hzb
      have HZB:=Lib.hid hzb
      clear hzb hz
      go_wp2_with (first|((with_reducible refine aS 46 ?_);refine ak rfl 23 _ rfl (Y5) 0 _ 23 (0,0) _ (Ay.out.get 5 rfl) rfl .u8 rw8 (au _ _) Tryd.underlying23 rfl (bU vN.out) ?_)|((with_reducible refine aS 47 ?_);refine wpList_build (by rfl) 23 _ rfl #[] rfl _ (HBN.out _) ?_)|((with_reducible refine aS 48 ?_);refine gZ (by rfl) 23 _ _ (.tmp 46) (.tmp 47) rfl 32 .u8 .u8 Tryd.underlying23 Tryd.underlying5 (fun w=>by kernel_rfl) (by kernel_rfl) rw8 zn rfl rfl vN.out cB.out false HZB.out ?_))
      go_meet
      exact ⟨rfl,Ay.out⟩
    case rest =>
    obtain ⟨wz,rfl⟩:∃ x:World,x=wc:=⟨_,rfl⟩
    obtain ⟨rfl,hbc⟩:=hcut
    have PY:=Lib.hid hbc
    clear hbc
    have q0:=aN (PY.out.get 5 rfl) 0 (by rw [vN.out];decide)
    rw [HLO.out] at q0
    have ha2:=Zy (r % 256) (Nat.mod_lt _ (by decide))
    rw [Nat.mod_mod_of_dvd r (show 2 ∣ 256 by decide)] at ha2
    have hbb:=HB2.out
    by_cases hf:r % 2≠b
    ·have HFL:=Lib.hid hf
     have hw:(bits .and .u8 ((r % 256:Nat):Int) 1 == (b:Int))=false:=by rw [ha2];rw [beq_eq_false_iff_ne];omega
     generalize r % 256=rb at q0 hw
     clear hf ha2
     go_upto_region 13 with fail
     go_upto_region 15 with (first|((with_reducible refine aS 59 ?_);refine wpList_build (by rfl) 98 _ rfl #[] rfl _ (BO.out _) ?_)|((with_reducible refine aS 60 ?_);refine ak rfl 98 _ rfl (gx) (0) _ 98 (0,0) _ (PY.out.get 4 rfl) rfl .i64 xr (au _ _) Tryd.underlying98 rfl (bI iG.out) ?_)|((with_reducible show Calls _ 78 #[.agg _, .agg _] _ _);go_at_call 78; refine (je _ _ _ _ _ HEz.out HXR.out).mono ?_;rintro e w718 ⟨Tg,rfl,h718,hb718⟩;have HZ718:=Lib.hid h718;have Dl:=Lib.hid h718.1;clear h718;have HB718:=Lib.hid (PY.out.kept hb718);clear hb718)|((with_reducible refine aT 7 (x:=(Operand.tmp 61)) ?_);refine ah rfl 98 _ _ rfl (gx) _ _ 98 (HB718.out.get 4 rfl) rfl rfl (ay _ _ Dl.out iG.out) (cO Dl.out) (av _ _) ?_;intro w719 hb719 hk719 hz719;have uI:=Lib.hid (HB718.out.put 4 rfl hk719 hb719);clear hb719 hk719 hz719;clear HB718))
     have dU:=Lib.hid ((Kept.refl (fun x=>x=w.heap.size+1) w719).drew)
     have dX:=Lib.hid (uI.out.drew)
     refine wp_region_held_drew (S:=(fun w'=>Kept (fun x=>x=w.heap.size+1) w719 w')) (by kernel_rfl) (dU.out) (fun hHeld=>?_)
     generalize w719.drew=wd at dU dX hHeld ⊢
     refine' wpAnyH_take (i:=0) (oi:=(⟨some 62,_,_,_,_,none⟩:Oper)) (v:=_) rfl (by kernel_rfl) (by kernel_rfl) (by kernel_rfl) (fun _ _ _ h=>h) (yieldsIf_load_mid (by rfl) _ _ rfl _ _ rfl (Tg.map (Value.int .i64)) _ ?hS720 Tryd.underlying98 rfl (by rw [List.length_map];exact bI Dl.out)) (by assumption) ?rest720
     case hS720=>(intro w hSw;(try dsimp only at hSw);exact aM (hSw.blk (uI.out.get 4 rfl) (uI.out.ne 4 1 rfl rfl (by decide))) 0 _ (by rw [List.length_map];exact au _ _))
     (try simp only [Act.put,sA,sZ,sS])
     refine' wpAnyH_take (i:=1) (oi:=(⟨some 63,_,_,_,_,none⟩:Oper)) (v:=_) rfl (by kernel_rfl) (by kernel_rfl) (by kernel_rfl) (fun _ _ _ h=>h) (yieldsIf_load_mid (by rfl) _ _ rfl _ _ rfl (oo.map (Value.int .i64)) _ ?hS721 Tryd.underlying98 rfl (by rw [List.length_map];exact bI oh.out)) (by assumption) ?rest721
     case hS721=>(intro w hSw;(try dsimp only at hSw);exact aM (hSw.blk (uI.out.get 2 rfl) (uI.out.ne 2 1 rfl rfl (by decide))) 0 _ (by rw [List.length_map];exact au _ _))
     (try simp only [Act.put,sA,sZ,sS])
     refine' wpAnyH_take (i:=3) (oi:=(⟨some 65,_,_,_,_,none⟩:Oper)) (v:=_) rfl (by kernel_rfl) (by kernel_rfl) (by kernel_rfl) (fun _ _ _ h=>h) (yieldsIf_load_mid (by rfl) _ _ rfl _ _ rfl (Tg.map (Value.int .i64)) _ ?hS722 Tryd.underlying98 rfl (by rw [List.length_map];exact bI Dl.out)) (by assumption) ?rest722
     case hS722=>(intro w hSw;(try dsimp only at hSw);exact aM (hSw.blk (uI.out.get 4 rfl) (uI.out.ne 4 1 rfl rfl (by decide))) 0 _ (by rw [List.length_map];exact au _ _))
     (try simp only [Act.put,sA,sZ,sS])
     refine' wpAnyH_take (i:=4) (oi:=(⟨some 66,_,_,_,_,none⟩:Oper)) (v:=_) rfl (by kernel_rfl) (by kernel_rfl) (by kernel_rfl) (fun _ _ _ h=>h) (yieldsIf_load_mid (by rfl) _ _ rfl _ _ rfl (oo.map (Value.int .i64)) _ ?hS723 Tryd.underlying98 rfl (by rw [List.length_map];exact bI oh.out)) (by assumption) ?rest723
     case hS723=>(intro w hSw;(try dsimp only at hSw);exact aM (hSw.blk (uI.out.get 2 rfl) (uI.out.ne 2 1 rfl rfl (by decide))) 0 _ (by rw [List.length_map];exact au _ _))
     (try simp only [Act.put,sA,sZ,sS])
     refine wpAnyH_ready (rs:=[2]) (by kernel_rfl) (by simp) ?_
     refine AllReadyH.cons (o:=(⟨some 64,_,_,_,_,none⟩:Oper)) rfl (fun K hK=>?_) AllReadyH.nil
     go_simp
     go_at_call 71
     refine (fO 1 _ (by decide)).mono ?_
     rintro e w724 ⟨z724,rfl,h724,WS⟩
     have HZ724:=Lib.hid h724
     have HL724:=Lib.hid h724.1
     clear h724
     have HB724:=Lib.hid (dX.out.kept WS)
     have HK724:=Lib.hid (dU.out.trans (Kept.of_below WS))
     clear WS
     (try dsimp only)
     clear dX
     clear dU
     clear hHeld
     refine hK.out _ _ (HK724.out) (fun hHeld=>?_)
     clear hK K
     (try simp only [Act.put,sA,sZ,sS])
     refine wpAnyH_ready (rs:=[5]) (by kernel_rfl) (by simp) ?_
     refine AllReadyH.cons (o:=(⟨some 67,_,_,_,_,none⟩:Oper)) rfl (fun K hK=>?_) AllReadyH.nil
     go_simp
     go_at_call 68
     refine (bJ _ _ _ _ _ HZ718.out Di.out).mono ?_
     rintro e w725 ⟨z725,rfl,h725,WR⟩
     have HZ725:=Lib.hid h725
     have HL725:=Lib.hid h725.1
     clear h725
     have HB725:=Lib.hid (HB724.out.kept WR)
     have HK725:=Lib.hid (HK724.out.trans (Kept.of_below WR))
     clear WR
     (try dsimp only)
     clear HB724
     clear HK724
     clear hHeld
     refine hK.out _ _ (HK725.out) (fun hHeld=>?_)
     clear hK K
     (try simp only [Act.put,sA,sZ,sS])
     obtain ⟨v727,OQ⟩:∃ x,x=Tg ++ oo ++ z724 ++ z725:=⟨_,rfl⟩
     have HR727:Hid (∀ w,(Instr.build 100 #[(0, .agg (arr .i64 Tg)),(1, .agg (arr .i64 oo)),(2, .agg (arr .i64 z724)),(3, .agg (arr .i64 z725))]).run Tryd.prog w = .ok (.agg (arr .i64 v727)) w):=Lib.hid (fun w=>by rw [OQ];exact pR _ _ _ _ Dl.out oh.out HL724.out HL725.out w)
     have HL727:Hid (v727.length=64):=Lib.hid (by rw [OQ];exact yX Dl.out oh.out HL724.out HL725.out)
     have HV727:=Lib.hid OQ
     clear OQ
     refine wpAnyH_take (i:=6) (oi:=(⟨some 68,_,_,_,_,none⟩:Oper)) (v:=(.agg (arr .i64 v727))) rfl (by kernel_rfl) (by kernel_rfl) (by kernel_rfl) (fun _ _ _ h=>h) (Or.inl ⟨by rfl,?hy726⟩) (by assumption) ?rest726
     case hy726=>(intro w hSw;(try dsimp only at hSw);exact ru 100 _ rfl #[(0, .agg (arr .i64 Tg)),(1, .agg (arr .i64 oo)),(2, .agg (arr .i64 z724)),(3, .agg (arr .i64 z725))] rfl _ (HR727.out _))
     (try simp only [Act.put,sA,sZ,sS])
     refine wpAnyH_ready (rs:=[7]) (by kernel_rfl) (by simp) ?_
     refine AllReadyH.cons (o:=(⟨none,_,_,_,_,none⟩:Oper)) rfl (fun K hK=>?_) AllReadyH.nil
     refine aD rfl 100 (.tmp 2) (.tmp 68) rfl (w.heap.size+1) _ _ _ (HB725.out.get 1 rfl) rfl rfl (ay _ _ HL727.out jq.out) (lD HL727.out) (av _ _) ?_
     intro w728 hb728 VX hz728
     have HB728:=Lib.hid (HB725.out.put 1 rfl VX hb728)
     have HK728:=Lib.hid (HK725.out.trans VX)
     clear hb728 VX hz728
     clear HB725
     clear HK725
     clear hHeld
     refine hK.out _ _ (HK728.out) (fun hHeld=>?_)
     clear hK K
     (try simp only [Act.put])
     refine wpAnyH_take (i:=8) (oi:=(⟨some 3,_,_,_,_,none⟩:Oper)) (v:=?v729) rfl (by kernel_rfl) (by kernel_rfl) (by kernel_rfl) (fun _ _ _ h=>h) (Or.inl ⟨by rfl,?hy729⟩) (by assumption) ?rest729
     case hy729=>(intro w hSw;(try dsimp only at hSw);go_simp;try (with_reducible rfl))
     (try simp only [Act.put,sA,sZ,sS])
     refine wpAnyH_done (by kernel_rfl) ?_ _
     have HBQ:=HB728
     have HWQ:=HL727
     have HF0:=HV727
     have HF1:=HZ718
     have HF2:=Di
     have HF3:=HZ724
     have HF4:=HZ725
     (try simp only [Exit.then])
     go_wp2_with fail
     refine bodyPost_ret (aP rfl _ _ (w.heap.size+1) 100 _ (0,0) _ _ rfl (HBQ.out.get 1 rfl) Tryd.underlying100 rfl (lD HWQ.out) rfl) rfl ?_
     have hev:=HSO.out
     rw [if_pos HFL.out] at hev
     refine ⟨_,by rw [hev];rfl,HWQ.out,(fun P h=>?_),HBQ.out.below⟩
     rw [hev] at h
     cases h
     exact ⟨_,_,_,_,HF0.out,HF1.out,HF2.out,HF3.out,HF4.out⟩
    ·have HFL:=Lib.hid hf
     have hw:(bits .and .u8 ((r % 256:Nat):Int) 1 == (b:Int))=true:=by rw [ha2];rw [beq_iff_eq];omega
     generalize r % 256=rb at q0 hw
     clear hf ha2
     go_upto_region 13 with fail
     go_upto_region 15 with fail
     have dU:=Lib.hid ((Kept.refl (fun x=>x=w.heap.size+1) wz).drew)
     have dX:=Lib.hid (PY.out.drew)
     refine wp_region_held_drew (S:=(fun w'=>Kept (fun x=>x=w.heap.size+1) wz w')) (by kernel_rfl) (dU.out) (fun hHeld=>?_)
     generalize wz.drew=wd at dU dX hHeld ⊢
     refine' wpAnyH_take (i:=0) (oi:=(⟨some 62,_,_,_,_,none⟩:Oper)) (v:=_) rfl (by kernel_rfl) (by kernel_rfl) (by kernel_rfl) (fun _ _ _ h=>h) (yieldsIf_load_mid (by rfl) _ _ rfl _ _ rfl (xr.map (Value.int .i64)) _ ?hS730 Tryd.underlying98 rfl (by rw [List.length_map];exact bI iG.out)) (by assumption) ?rest730
     case hS730=>(intro w hSw;(try dsimp only at hSw);exact aM (hSw.blk (PY.out.get 4 rfl) (PY.out.ne 4 1 rfl rfl (by decide))) 0 _ (by rw [List.length_map];exact au _ _))
     (try simp only [Act.put,sA,sZ,sS])
     refine' wpAnyH_take (i:=1) (oi:=(⟨some 63,_,_,_,_,none⟩:Oper)) (v:=_) rfl (by kernel_rfl) (by kernel_rfl) (by kernel_rfl) (fun _ _ _ h=>h) (yieldsIf_load_mid (by rfl) _ _ rfl _ _ rfl (oo.map (Value.int .i64)) _ ?hS731 Tryd.underlying98 rfl (by rw [List.length_map];exact bI oh.out)) (by assumption) ?rest731
     case hS731=>(intro w hSw;(try dsimp only at hSw);exact aM (hSw.blk (PY.out.get 2 rfl) (PY.out.ne 2 1 rfl rfl (by decide))) 0 _ (by rw [List.length_map];exact au _ _))
     (try simp only [Act.put,sA,sZ,sS])
     refine' wpAnyH_take (i:=3) (oi:=(⟨some 65,_,_,_,_,none⟩:Oper)) (v:=_) rfl (by kernel_rfl) (by kernel_rfl) (by kernel_rfl) (fun _ _ _ h=>h) (yieldsIf_load_mid (by rfl) _ _ rfl _ _ rfl (xr.map (Value.int .i64)) _ ?hS732 Tryd.underlying98 rfl (by rw [List.length_map];exact bI iG.out)) (by assumption) ?rest732
     case hS732=>(intro w hSw;(try dsimp only at hSw);exact aM (hSw.blk (PY.out.get 4 rfl) (PY.out.ne 4 1 rfl rfl (by decide))) 0 _ (by rw [List.length_map];exact au _ _))
     (try simp only [Act.put,sA,sZ,sS])
     refine' wpAnyH_take (i:=4) (oi:=(⟨some 66,_,_,_,_,none⟩:Oper)) (v:=_) rfl (by kernel_rfl) (by kernel_rfl) (by kernel_rfl) (fun _ _ _ h=>h) (yieldsIf_load_mid (by rfl) _ _ rfl _ _ rfl (oo.map (Value.int .i64)) _ ?hS733 Tryd.underlying98 rfl (by rw [List.length_map];exact bI oh.out)) (by assumption) ?rest733
     case hS733=>(intro w hSw;(try dsimp only at hSw);exact aM (hSw.blk (PY.out.get 2 rfl) (PY.out.ne 2 1 rfl rfl (by decide))) 0 _ (by rw [List.length_map];exact au _ _))
     (try simp only [Act.put,sA,sZ,sS])
     refine wpAnyH_ready (rs:=[2]) (by kernel_rfl) (by simp) ?_
     refine AllReadyH.cons (o:=(⟨some 64,_,_,_,_,none⟩:Oper)) rfl (fun K hK=>?_) AllReadyH.nil
     go_simp
     go_at_call 71
     refine (fO 1 _ (by decide)).mono ?_
     rintro e w734 ⟨z734,rfl,h734,WQ⟩
     have HZ734:=Lib.hid h734
     have HL734:=Lib.hid h734.1
     clear h734
     have HB734:=Lib.hid (dX.out.kept WQ)
     have HK734:=Lib.hid (dU.out.trans (Kept.of_below WQ))
     clear WQ
     (try dsimp only)
     clear dX
     clear dU
     clear hHeld
     refine hK.out _ _ (HK734.out) (fun hHeld=>?_)
     clear hK K
     (try simp only [Act.put,sA,sZ,sS])
     refine wpAnyH_ready (rs:=[5]) (by kernel_rfl) (by simp) ?_
     refine AllReadyH.cons (o:=(⟨some 67,_,_,_,_,none⟩:Oper)) rfl (fun K hK=>?_) AllReadyH.nil
     go_simp
     go_at_call 68
     refine (bJ _ _ _ _ _ HXR.out Di.out).mono ?_
     rintro e w735 ⟨z735,rfl,h735,WO⟩
     have HZ735:=Lib.hid h735
     have HL735:=Lib.hid h735.1
     clear h735
     have HB735:=Lib.hid (HB734.out.kept WO)
     have HK735:=Lib.hid (HK734.out.trans (Kept.of_below WO))
     clear WO
     (try dsimp only)
     clear HB734
     clear HK734
     clear hHeld
     refine hK.out _ _ (HK735.out) (fun hHeld=>?_)
     clear hK K
     (try simp only [Act.put,sA,sZ,sS])
     obtain ⟨v737,OO⟩:∃ x,x=xr ++ oo ++ z734 ++ z735:=⟨_,rfl⟩
     have HR737:Hid (∀ w,(Instr.build 100 #[(0, .agg (arr .i64 xr)),(1, .agg (arr .i64 oo)),(2, .agg (arr .i64 z734)),(3, .agg (arr .i64 z735))]).run Tryd.prog w = .ok (.agg (arr .i64 v737)) w):=Lib.hid (fun w=>by rw [OO];exact pR _ _ _ _ iG.out oh.out HL734.out HL735.out w)
     have HL737:Hid (v737.length=64):=Lib.hid (by rw [OO];exact yX iG.out oh.out HL734.out HL735.out)
     have HV737:=Lib.hid OO
     clear OO
     refine wpAnyH_take (i:=6) (oi:=(⟨some 68,_,_,_,_,none⟩:Oper)) (v:=(.agg (arr .i64 v737))) rfl (by kernel_rfl) (by kernel_rfl) (by kernel_rfl) (fun _ _ _ h=>h) (Or.inl ⟨by rfl,?hy736⟩) (by assumption) ?rest736
     case hy736=>(intro w hSw;(try dsimp only at hSw);exact ru 100 _ rfl #[(0, .agg (arr .i64 xr)),(1, .agg (arr .i64 oo)),(2, .agg (arr .i64 z734)),(3, .agg (arr .i64 z735))] rfl _ (HR737.out _))
     (try simp only [Act.put,sA,sZ,sS])
     refine wpAnyH_ready (rs:=[7]) (by kernel_rfl) (by simp) ?_
     refine AllReadyH.cons (o:=(⟨none,_,_,_,_,none⟩:Oper)) rfl (fun K hK=>?_) AllReadyH.nil
     refine aD rfl 100 (.tmp 2) (.tmp 68) rfl (w.heap.size+1) _ _ _ (HB735.out.get 1 rfl) rfl rfl (ay _ _ HL737.out jq.out) (lD HL737.out) (av _ _) ?_
     intro w738 hb738 VW hz738
     have HB738:=Lib.hid (HB735.out.put 1 rfl VW hb738)
     have HK738:=Lib.hid (HK735.out.trans VW)
     clear hb738 VW hz738
     clear HB735
     clear HK735
     clear hHeld
     refine hK.out _ _ (HK738.out) (fun hHeld=>?_)
     clear hK K
     (try simp only [Act.put])
     refine wpAnyH_take (i:=8) (oi:=(⟨some 3,_,_,_,_,none⟩:Oper)) (v:=?v739) rfl (by kernel_rfl) (by kernel_rfl) (by kernel_rfl) (fun _ _ _ h=>h) (Or.inl ⟨by rfl,?hy739⟩) (by assumption) ?rest739
     case hy739=>(intro w hSw;(try dsimp only at hSw);go_simp;try (with_reducible rfl))
     (try simp only [Act.put,sA,sZ,sS])
     refine wpAnyH_done (by kernel_rfl) ?_ _
     have HBQ:=HB738
     have HWQ:=HL737
     have HF0:=HV737
     have HF1:=HXR
     have HF2:=Di
     have HF3:=HZ734
     have HF4:=HZ735
     (try simp only [Exit.then])
     go_wp2_with fail
     refine bodyPost_ret (aP rfl _ _ (w.heap.size+1) 100 _ (0,0) _ _ rfl (HBQ.out.get 1 rfl) Tryd.underlying100 rfl (lD HWQ.out) rfl) rfl ?_
     have hev:=HSO.out
     rw [if_neg HFL.out] at hev
     refine ⟨_,by rw [hev];rfl,HWQ.out,(fun P h=>?_),HBQ.out.below⟩
     rw [hev] at h
     cases h
     exact ⟨_,_,_,_,HF0.out,HF1.out,HF2.out,HF3.out,HF4.out⟩
end Go.Proofs.YthdgbgleklkaiaaDoor.Rd
