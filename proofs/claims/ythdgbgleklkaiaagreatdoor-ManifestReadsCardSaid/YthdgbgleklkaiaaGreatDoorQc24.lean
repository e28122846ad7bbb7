/- The document's read, May. Condition: as each theorem says. -/

import Derived.Test.YthdgbgleklkaiaaGreatDoorQc22
open Go.Lib renaming hid→abC
open List renaming length_map→abD,map_cons→abE,map_nil→abF,replicate→abJ,nil_append→abM,append_nil→abN,append_assoc→abO,cons_append→abP
open BitVec renaming ofInt→abG
open Nat renaming mod_lt→abH,mod_eq_of_lt→abI
set_option linter.unusedSimpArgs false
set_option linter.unusedVariables false
set_option maxRecDepth 100000
set_option maxHeartbeats 16000000
namespace Go.Proofs.YthdgbgleklkaiaaGreatDoor.Rd
open Go.RowKit Lm Fp Cu
theorem Nw (w:World):(Instr.build 25 #[]).run Tryz.prog w = .ok (.agg (arr .u8 (abJ 32 0))) w:=by kernel_rfl
theorem and127 (t:Nat) (h:t < 256):bits .and .u8 (t:Int) 127=((t % 128:Nat):Int):=by
 have e:t &&& 127=t % 128:=Nat.and_two_pow_sub_one_eq_mod t 7
 have h1:(abG 8 (t:Int)).toNat=t:=by rw [BitVec.ofInt_natCast,BitVec.toNat_ofNat];exact abI (by omega)
 have h2:(abG 8 (127:Int)).toNat=127:=by decide
 show IntKind.u8.wrap ((abG 8 (t:Int) &&& abG 8 (127:Int)).toNat:Int)=_
 rw [BitVec.toNat_and,h1,h2,e,IntKind.wrap_u8]
 omega
theorem DW {a b:Nat} (ha:a < 256 ^ 32) (hb:b < 256 ^ 32):(aW (bD 256 32 a) == aW (bD 256 32 b))=decide (a=b):=by
 by_cases e:a=b
 ·subst e;simp
 ·rw [decide_eq_false e,beq_eq_false_iff_ne]
  intro h
  have h3:bD 256 32 a=bD 256 32 b:=by
   have:=congrArg (List.map Int.toNat) h
   have e:∀ l:List Nat,(aW l).map Int.toNat=l:=fun l=>by rw [aW,List.map_map];exact List.map_id l
   rwa [e,e] at this
  have h4:=congrArg (val 256) h3
  rw [yV a ha,yV b hb] at h4
  exact e h4
theorem U7:(abJ 32 0:List Int)=aW (bD 256 32 0):=by decide +kernel
theorem tq (v:Nat) (w:World) (hv:v < 2 ^ 256) (Tv:vK w) (hTi:UA w) :
  Calls Tryz.prog 109 #[.agg (arr .u8 (aW (bD 256 32 v)))] w fun e w'=>∃ zs,e = .returned (.tuple #[.agg (arr .i64 zs), .bool (iX v).isSome])∧zs.length=64∧(∀ P,iX v=some P→mE zs P)∧Below w.heap.size w w':=by
 obtain ⟨y,hy⟩:∃ y,y=v % 2 ^ 255:=⟨_,rfl⟩
 obtain ⟨b,hb⟩:∃ b,b=v / 2 ^ 255:=⟨_,rfl⟩
 have hy2:y < 2 ^ 255:=by rw [hy];exact abH _ (by decide)
 have hy32:y < 256 ^ 32:=Nat.lt_of_lt_of_le hy2 (by decide)
 obtain ⟨t1,t2⟩:=oU v hv
 have hds:=QJ v hv
 have htb:=top_bit v
 have hb2:b≤1:=by
  rw [hb]
  have:v / 2 ^ 255 < 2:=Nat.div_lt_of_lt_mul (by rw [← Nat.pow_succ];exact hv)
  omega
 rw [← hy] at hds
 rw [← hb] at htb
 generalize v / 256 ^ 31=t at t1 t2 hds htb
 have hbt:(t:Int) / 128=(b:Int):=by omega
 have ha:=and127 t t2
 have hE1:=A8 v
 have hE2:=xP v
 have hE3:=xO v
 have hE4:=fun r h1 h2 h3 h4=>Nf v r hv h1 h2 h3 h4
 rw [← hy] at hE1 hE2 hE3 hE4
 rw [← hb] at hE3 hE4
 obtain ⟨ev,hev⟩:∃ e,e=iX v:=⟨_,rfl⟩
 rw [← hev] at hE1 hE2 hE3 hE4 ⊢
 obtain ⟨ns,hns⟩:∃ x,x=aW (bD 256 32 v):=⟨_,rfl⟩
 have uL:Hid (ns.length=32):=abC (by rw [hns,aG,aK])
 have Na:ns.getD 31 0=(t:Int):=by rw [hns,bH,t1]
 have hn2:ns.set 31 ((t % 128:Nat):Int)=aW (bD 256 32 y):=by rw [hns,← cZ,hds]
 rw [← hns]
 have hin:=fun w=>Lp y w hy32
 have hca:=fun w=>Um y w hy32
 have hne:(!(aW (bD 256 32 (y % p)) == aW (bD 256 32 y)))=decide (¬ y < p):=by
  rw [DW (Nat.lt_trans (abH _ zQ) KX) hy32]
  by_cases h:y < p
  ·rw [abI h];simp [h]
  ·have:¬ y % p=y:=by have:=abH y zQ;omega
   simp [this,h]
 have HY2:=abC hy2
 obtain ⟨ms,hms⟩:∃ x,x=aW (bD 256 32 y):=⟨_,rfl⟩
 have uE:Hid (ms.length=32):=abC (by rw [hms,aG,aK])
 obtain ⟨ks,hks⟩:∃ x,x=aW (bD 256 32 (y % p)):=⟨_,rfl⟩
 have lH:Hid (ks.length=32):=abC (by rw [hks,aG,aK])
 rw [← hms] at hin hca hn2 hne
 rw [← hks] at hca hne
 have HIN:=abC hin
 have HCA:=abC hca
 have HNE:=abC hne
 have HA:=abC ha
 have HBT:=abC hbt
 have HE1:=abC hE1
 have HE2:=abC hE2
 have HE3:=abC hE3
 have HE4:=abC hE4
 have HB2:=abC hb2
 obtain ⟨dl,hdl⟩:∃ x,x=dL:=⟨_,rfl⟩
 have HD:Hid (El dl dd):=abC (by rw [hdl];exact dL_el)
 have yQ:=abC HD.out.1
 have HTI:=abC hTi
 unfold vK at Tv
 rw [← hdl] at Tv
 have HTD:=abC Tv
 obtain ⟨ze,iO,dO,dG⟩:=zN gM
 obtain ⟨zn,hzn,dB,dw⟩:=zN zero_num
 obtain ⟨zp,yE,xS,jF⟩:=zN nD
 have HEz:Hid (El ze 0):=abC (by rw [iO];exact F9)
 have HNz:Hid (zn=aW (bD 256 32 0)):=abC (by rw [hzn];exact U7)
 have CW:Hid (∀ w,(Instr.build 125 #[]).run Tryz.prog w = .ok (.agg (arr .i64 ze)) w):=abC (by intro w;rw [iO];exact Ea w)
 have HBP:Hid (∀ w,(Instr.build 127 #[]).run Tryz.prog w = .ok (.agg (arr .i64 zp)) w):=abC (by intro w;rw [yE];exact Ut w)
 have HBN:Hid (∀ w,(Instr.build 25 #[]).run Tryz.prog w = .ok (.agg (arr .u8 zn)) w):=abC (by intro w;rw [hzn];exact Nw w)
 have hS0:=bO.two w (arr .u8 ns) (arr .i64 zp) 25 127
 have q0:=aP (hS0.get 0 rfl) 31 (by rw [uL.out];decide)
 have q1:=aC (hS0.get 0 rfl) 31
 rw [Na] at q0
 have e2:(arr .u8 ns).setIfInBounds 31 (.int .u8 (bits .and .u8 (t:Int) 127))=arr .u8 ms:=by rw [HA.out,bq,hn2]
 have iY:=abC ((bO.two w ((arr .u8 ns).setIfInBounds 31 (.int .u8 (bits .and .u8 (t:Int) 127))) (arr .i64 zp) 25 127).cast (l':=[(w.heap.size,arr .u8 ms, 25),(w.heap.size+1,arr .i64 zp, 127)]) (by rw [e2]))
 clear iO hzn yE hdl Tv hTi hin hca hne ha hbt hE1 hE2 hE3 hE4 hb2 hy hb hy2 hy32 t1 hds htb hev hns Na hn2 hms hks hS0 e2
 go_enter Tryz.func109, Tryz.ntmps109
 go_upto_region 3 with (first|((with_reducible refine aS 2 ?_);refine ah rfl 127 rfl _ (xS.out _) ?_))
 rw [HBT.out]
 generalize ((w.alloc (.cells ((arr .u8 ns).setIfInBounds 31 (.int .u8 (bits .and .u8 (t:Int) 127))) 25)).alloc (.cells (arr .i64 zp) 127))=wb at iY ⊢
 by_cases hyp:y < p
 rotate_left
 ·have hn:=HNE.out
  rw [decide_eq_true hyp] at hn
  have Q8:=abC hn
  clear hn
  have d9:=abC ((Kept.refl (fun _=>False) wb).drew)
  have eF:=abC (iY.out.drew)
  refine wp_region_held_drew (S:=(fun w'=>Kept (fun _=>False) wb w')) (by kernel_rfl) (d9.out) (fun hHeld=>?_)
  generalize wb.drew=wd at d9 eF hHeld ⊢
  refine' wpAnyH_take (i:=0) (oi:=(⟨some 17,_,_,_,_,none⟩:Oper)) (v:=_) rfl (by kernel_rfl) (by kernel_rfl) (by kernel_rfl) (fun _ _ _ h=>h) (yieldsIf_load_mid (by rfl) _ _ rfl _ _ rfl (ms.map (Value.int .u8)) _ ?hS701 Tryz.underlying25 rfl (by rw [abD];exact bU uE.out)) (by assumption) ?rest701
  case hS701=>(intro w hSw;(try dsimp only at hSw);exact aO (hSw.blk (iY.out.get 0 rfl) (fun e=>e.elim)) 0 _ (by rw [abD];exact aj _ _))
  (try simp only [Act.put,sA,sZ,sS])
  refine' wpAnyH_take (i:=2) (oi:=(⟨some 19,_,_,_,_,none⟩:Oper)) (v:=_) rfl (by kernel_rfl) (by kernel_rfl) (by kernel_rfl) (fun _ _ _ h=>h) (yieldsIf_load_mid (by rfl) _ _ rfl _ _ rfl (ms.map (Value.int .u8)) _ ?hS702 Tryz.underlying25 rfl (by rw [abD];exact bU uE.out)) (by assumption) ?rest702
  case hS702=>(intro w hSw;(try dsimp only at hSw);exact aO (hSw.blk (iY.out.get 0 rfl) (fun e=>e.elim)) 0 _ (by rw [abD];exact aj _ _))
  (try simp only [Act.put,sA,sZ,sS])
  refine pR 1 ⟨some 18,_,_,_,_,none⟩ (fun K hK=>?_)
  go_simp
  go_at_call 159
  refine (HCA.out _).mono ?_
  rintro e w703 ⟨rfl,Yu⟩
  have HB703:=abC (eF.out.kept Yu)
  have HK703:=abC (d9.out.trans (Kept.of_below Yu))
  clear Yu
  (try dsimp only)
  clear eF
  clear d9
  clear hHeld
  refine hK.out _ _ (HK703.out) (fun hHeld=>?_)
  clear hK K
  (try simp only [Act.put,sA,sZ,sS])
  refine wpAnyH_take (i:=3) (oi:=(⟨some 20,_,_,_,_,none⟩:Oper)) (v:=(.bool true)) rfl (by kernel_rfl) (by kernel_rfl) (by kernel_rfl) (fun _ _ _ h=>h) (Or.inl ⟨by rfl,?hy704⟩) (by assumption) ?rest704
  case hy704=>(intro w hSw;(try dsimp only at hSw);exact tZ 25 _ _ (.tmp 18) (.tmp 19) rfl 32 .u8 .u8 Tryz.underlying25 Tryz.underlying5 (fun w=>by kernel_rfl) (by kernel_rfl) ks ms rfl rfl lH.out uE.out _ Q8.out)
  (try simp only [Act.put,sA,sZ,sS])
  refine wpAnyH_done (by kernel_rfl) ?_ _
  have sH:=HB703
  clear iY
  (try simp only [Exit.then])
  go_wp2_with (first|((with_reducible refine aS 21 ?_);refine wpList_build (by rfl) 127 _ rfl #[] rfl _ (HBP.out _) ?_)|((with_reducible refine aT 2 ?_);refine lS rfl rfl sH 1 rfl rfl rfl (av _ _ jF.out jF.out) (lI jF.out) (ak _ _) ?_;intro w99 HBZ))
  (try simp only [Exit.then])
  refine bodyPost_ret (aN rfl _ _ (w.heap.size+1) 127 _ (0,0) _ _ rfl (HBZ.out.get 1 rfl) Tryz.underlying127 rfl (lI jF.out) rfl) rfl ?_
  have hev:=HE1.out hyp
  exact ⟨zp,by rw [hev];rfl,jF.out,(fun P h=>by rw [hev] at h;cases h),HBZ.out.below⟩
 ·have hn:=HNE.out
  rw [decide_eq_false (fun h=>h hyp)] at hn
  have Q8:=abC hn
  clear hn
  have d9:=abC ((Kept.refl (fun _=>False) wb).drew)
  have eF:=abC (iY.out.drew)
  refine wp_region_held_drew (S:=(fun w'=>Kept (fun _=>False) wb w')) (by kernel_rfl) (d9.out) (fun hHeld=>?_)
  generalize wb.drew=wd at d9 eF hHeld ⊢
  refine' wpAnyH_take (i:=0) (oi:=(⟨some 17,_,_,_,_,none⟩:Oper)) (v:=_) rfl (by kernel_rfl) (by kernel_rfl) (by kernel_rfl) (fun _ _ _ h=>h) (yieldsIf_load_mid (by rfl) _ _ rfl _ _ rfl (ms.map (Value.int .u8)) _ ?hS705 Tryz.underlying25 rfl (by rw [abD];exact bU uE.out)) (by assumption) ?rest705
  case hS705=>(intro w hSw;(try dsimp only at hSw);exact aO (hSw.blk (iY.out.get 0 rfl) (fun e=>e.elim)) 0 _ (by rw [abD];exact aj _ _))
  (try simp only [Act.put,sA,sZ,sS])
  refine' wpAnyH_take (i:=2) (oi:=(⟨some 19,_,_,_,_,none⟩:Oper)) (v:=_) rfl (by kernel_rfl) (by kernel_rfl) (by kernel_rfl) (fun _ _ _ h=>h) (yieldsIf_load_mid (by rfl) _ _ rfl _ _ rfl (ms.map (Value.int .u8)) _ ?hS706 Tryz.underlying25 rfl (by rw [abD];exact bU uE.out)) (by assumption) ?rest706
  case hS706=>(intro w hSw;(try dsimp only at hSw);exact aO (hSw.blk (iY.out.get 0 rfl) (fun e=>e.elim)) 0 _ (by rw [abD];exact aj _ _))
  (try simp only [Act.put,sA,sZ,sS])
  refine pR 1 ⟨some 18,_,_,_,_,none⟩ (fun K hK=>?_)
  go_simp
  go_at_call 159
  refine (HCA.out _).mono ?_
  rintro e w707 ⟨rfl,Yt⟩
  have HB707:=abC (eF.out.kept Yt)
  have HK707:=abC (d9.out.trans (Kept.of_below Yt))
  clear Yt
  (try dsimp only)
  clear eF
  clear d9
  clear hHeld
  refine hK.out _ _ (HK707.out) (fun hHeld=>?_)
  clear hK K
  (try simp only [Act.put,sA,sZ,sS])
  refine wpAnyH_take (i:=3) (oi:=(⟨some 20,_,_,_,_,none⟩:Oper)) (v:=(.bool false)) rfl (by kernel_rfl) (by kernel_rfl) (by kernel_rfl) (fun _ _ _ h=>h) (Or.inl ⟨by rfl,?hy708⟩) (by assumption) ?rest708
  case hy708=>(intro w hSw;(try dsimp only at hSw);exact tZ 25 _ _ (.tmp 18) (.tmp 19) rfl 32 .u8 .u8 Tryz.underlying25 Tryz.underlying5 (fun w=>by kernel_rfl) (by kernel_rfl) ks ms rfl rfl lH.out uE.out _ Q8.out)
  (try simp only [Act.put,sA,sZ,sS])
  refine wpAnyH_done (by kernel_rfl) ?_ _
  have sH:=HB707
  clear iY
  (try simp only [Exit.then])
  have hin2:=HIN.out
  rw [abI hyp] at hin2
  have HINy:=abC hin2
  clear hin2
  have hbf:=sH.out
  have HBF':=abC hbf
  clear hbf
  go_upto_region 7 with (first|((with_reducible refine aS 22 ?_);refine lL rfl rfl (HBF'.out.get 0 rfl) rfl (aj _ _) Tryz.underlying25 rfl (bU uE.out) ?_)|((with_reducible show Calls _ 141 #[.agg _] _ _);go_at_call 141; refine lZ (HINy.out _) HBF' ?_;intro qG w709 Bt HB709;have oG:=abC Bt.out.1)|((with_reducible refine aS 5 ?_);refine lA rfl rfl (dO.out _) HB709 ?_;intro TH w710 HB710; clear HB709)|((with_reducible refine aT 5 (x:=(Operand.tmp 23)) ?_);refine lS rfl rfl HB710 2 rfl rfl rfl (av _ _ oG.out dG.out) (dx oG.out) (ak _ _) ?_;intro w711 Ro;clear HB710)|((with_reducible refine aS 24 ?_);refine lL rfl rfl (Ro.out.get 2 rfl) rfl (aj _ _) Tryz.underlying125 rfl (bK oG.out) ?_)|((with_reducible refine aS 25 ?_);refine lL rfl rfl (Ro.out.get 2 rfl) rfl (aj _ _) Tryz.underlying125 rfl (bK oG.out) ?_)|((with_reducible show Calls _ 132 #[.agg _, .agg _] _ _);go_at_call 132; refine lZ (bM _ _ _ _ _ Bt.out Bt.out) Ro ?_;intro sK w712 aaD HB712;have Ra:=abC aaD.out.1;clear Ro)|((with_reducible refine aS 6 ?_);refine lA rfl rfl (dO.out _) HB712 ?_;intro CO w713 HB713; clear HB712)|((with_reducible refine aT 6 (x:=(Operand.tmp 26)) ?_);refine lS rfl rfl HB713 3 rfl rfl rfl (av _ _ Ra.out dG.out) (dx Ra.out) (ak _ _) ?_;intro w714 HB714;clear HB713))
  (try simp only [Act.put,sA,sZ,sS])
  obtain ⟨U,hU⟩:∃ u,u=under y:=⟨_,rfl⟩
  have hE2:=HE2.out
  have hE3:=HE3.out
  have hE4:=HE4.out
  have hU2:aA (bf (aA y y) 1) (finv (aL (aA dd (aA y y)) 1))=U:=hU.symm
  rw [← hU] at hE2 hE3 hE4
  have HE2':=abC hE2
  have HE3':=abC hE3
  have HE4':=abC hE4
  have HUU:=abC hU2
  clear hE2 hE3 hE4 hU hU2
  refine gW (fun (fF:Fill) (uF:World)=>(∀ v,fF 0=some v→v = .agg (arr .i64 sK)∧True)∧(∀ v,fF 1=some v→∃ zs:List Int,v = .agg (arr .i64 zs)∧El zs 1)∧(∀ v,fF 2=some v→∃ zs:List Int,v = .agg (arr .i64 zs)∧El zs (bf (aA y y) 1))∧(∀ v,fF 3=some v→v = .agg (arr .i64 dl)∧True)∧(∀ v,fF 4=some v→v = .agg (arr .i64 sK)∧True)∧(∀ v,fF 5=some v→∃ zs:List Int,v = .agg (arr .i64 zs)∧El zs (aA dd (aA y y)))∧(∀ v,fF 6=some v→∃ zs:List Int,v = .agg (arr .i64 zs)∧El zs 1)∧(∀ v,fF 7=some v→∃ zs:List Int,v = .agg (arr .i64 zs)∧El zs (aL (aA dd (aA y y)) 1))∧(∀ v,fF 8=some v→∃ zs:List Int,v = .agg (arr .i64 zs)∧El zs (finv (aL (aA dd (aA y y)) 1)))∧(∀ v,fF 9=some v→∃ zs:List Int,v = .agg (arr .i64 zs)∧El zs (aA (bf (aA y y) 1) (finv (aL (aA dd (aA y y)) 1))))∧(∀ v,fF 10=some v→∃ zs:List Int,v = .tuple #[.agg (arr .i64 zs), .bool (gK U).2]∧El zs (gK U).1)∧(∀ v,fF 11=some v→∃ zs:List Int,v = .tuple #[.agg (arr .i64 zs), .bool (gK U).2]∧El zs (gK U).1)∧(∀ v,fF 12=some v→∃ zs:List Int,v = .agg (arr .i64 zs)∧El zs (gK U).1)∧(∀ v,fF 13=some v→v = .bool (gK U).2∧True)∧(∀ v,fF 14=some v→∃ g:Nat,v = .pointer (some ⟨g,0,none⟩))∧(∀ v,fF 16=some v→v = .bool (gK U).2∧True)∧bO w uF ([(w.heap.size,arr .u8 ms, 25),(w.heap.size+1,arr .i64 zp, 127),(TH,arr .i64 qG, 125),(CO,arr .i64 sK, 125)] ++ (ent (fF 14) ((if (fF 15).isSome=true then Z0 (fF 12) else arr .i64 ze)) 125))) (by kernel_rfl) (by kernel_rfl) ?zd7 ?sd7 ?ed7
  case zd7=>exact ⟨fun _ h=>(by cases h),fun _ h=>(by cases h),fun _ h=>(by cases h),fun _ h=>(by cases h),fun _ h=>(by cases h),fun _ h=>(by cases h),fun _ h=>(by cases h),fun _ h=>(by cases h),fun _ h=>(by cases h),fun _ h=>(by cases h),fun _ h=>(by cases h),fun _ h=>(by cases h),fun _ h=>(by cases h),fun _ h=>(by cases h),fun _ h=>(by cases h),fun _ h=>(by cases h),HB714.out.drew⟩
  case sd7 =>
   refine bI.cons (fun fF bF uF kF fJ jZ mD dh fU gT=>?_) ?_
   ·obtain ⟨j0,j1,j2,j3,j4,j5,j6,j7,j8,j9,j10,j11,j12,j13,oL,pG,hB⟩:=fJ
    have e6:bF.eval (.tmp 6) = .pointer (some ⟨CO,0,none⟩):=fU.old' 6 (by kernel_rfl) rfl
    have hB':=hB
    refine eZ rfl 125 _ rfl (CO) (0) (arr .i64 sK) 125 (0,0) _ (hB'.get 3 rfl) e6 .i64 sK (aj _ _) Tryz.underlying125 rfl (bK Ra.out) ?_
    exact gT _ _ ⟨fun _ h=>⟨sI h,trivial⟩,j1,j2,j3,j4,j5,j6,j7,j8,j9,j10,j11,j12,j13,oL,pG,hB⟩
   refine bI.cons (fun fF bF uF kF fJ jZ mD dh fU gT=>?_) ?_
   ·obtain ⟨j0,j1,j2,j3,j4,j5,j6,j7,j8,j9,j10,j11,j12,j13,oL,pG,hB⟩:=fJ
    refine fQ rfl 134 [Operand.const (Value.int IntKind.i64 1)] _ [.int .i64 1] rfl (by simp only [abE,abF] <;> rfl) (fun _ _=>by kernel_rfl) ?_
    refine Calls.mono (gq 1 _ (by decide)) ?_
    rintro e w1 ⟨zq,rfl,rq,hb⟩
    exact ⟨_,rfl,gT _ _ ⟨j0,fun _ h=>⟨zq,sI h,rq⟩,j2,j3,j4,j5,j6,j7,j8,j9,j10,j11,j12,j13,oL,pG,hB.kept hb⟩⟩
   refine bI.cons (fun fF bF uF kF fJ jZ mD dh fU gT=>?_) ?_
   ·obtain ⟨j0,j1,j2,j3,j4,j5,j6,j7,j8,j9,j10,j11,j12,j13,oL,pG,hB⟩:=fJ
    obtain ⟨e28,p28⟩:=fU.at dh 0 28 (by kernel_rfl) rfl j0
    have y1:=dh 1 (by kernel_rfl)
    obtain ⟨v1,s1⟩:=sE y1
    obtain ⟨xd7_1,rfl,r1⟩:=j1 _ s1
    have Rd7_1:=abC r1
    have HLd7_1:=abC (r1.1)
    have e29:=fU.val 1 29 rfl s1
    refine fQ rfl 143 [Operand.tmp 28,Operand.tmp 29] _ [.agg (arr .i64 sK), .agg (arr .i64 xd7_1)] rfl (by simp only [abE,abF,e28,e29] <;> rfl) (fun _ _=>by kernel_rfl) ?_
    refine Calls.mono (jm _ _ _ _ _ aaD.out Rd7_1.out) ?_
    rintro e w1 ⟨zq,rfl,rq,hb⟩
    exact ⟨_,rfl,gT _ _ ⟨j0,j1,fun _ h=>⟨zq,sI h,rq⟩,j3,j4,j5,j6,j7,j8,j9,j10,j11,j12,j13,oL,pG,hB.kept hb⟩⟩
   refine bI.cons (fun fF bF uF kF fJ jZ mD dh fU gT=>?_) ?_
   ·obtain ⟨j0,j1,j2,j3,j4,j5,j6,j7,j8,j9,j10,j11,j12,j13,oL,pG,hB⟩:=fJ
    rw [if_pos (by simp [Region.wanted])]
    refine wp_load_mid 125 (.global 3) rfl 3 0 rfl (dl.map (Value.int .i64)) _ (bC HTD.out hB.below) Tryz.underlying125 rfl (by rw [abD];exact bK yQ.out) ?_
    exact gT _ _ ⟨j0,j1,j2,fun _ h=>⟨sI h,trivial⟩,j4,j5,j6,j7,j8,j9,j10,j11,j12,j13,oL,pG,hB⟩
   refine bI.cons (fun fF bF uF kF fJ jZ mD dh fU gT=>?_) ?_
   ·obtain ⟨j0,j1,j2,j3,j4,j5,j6,j7,j8,j9,j10,j11,j12,j13,oL,pG,hB⟩:=fJ
    have e6:bF.eval (.tmp 6) = .pointer (some ⟨CO,0,none⟩):=fU.old' 6 (by kernel_rfl) rfl
    have hB':=hB
    refine eZ rfl 125 _ rfl (CO) (0) (arr .i64 sK) 125 (0,0) _ (hB'.get 3 rfl) e6 .i64 sK (aj _ _) Tryz.underlying125 rfl (bK Ra.out) ?_
    exact gT _ _ ⟨j0,j1,j2,j3,fun _ h=>⟨sI h,trivial⟩,j5,j6,j7,j8,j9,j10,j11,j12,j13,oL,pG,hB⟩
   refine bI.cons (fun fF bF uF kF fJ jZ mD dh fU gT=>?_) ?_
   ·obtain ⟨j0,j1,j2,j3,j4,j5,j6,j7,j8,j9,j10,j11,j12,j13,oL,pG,hB⟩:=fJ
    obtain ⟨e31,p31⟩:=fU.at dh 3 31 (by kernel_rfl) rfl j3
    obtain ⟨e32,p32⟩:=fU.at dh 4 32 (by kernel_rfl) rfl j4
    refine fQ rfl 132 [Operand.tmp 31,Operand.tmp 32] _ [.agg (arr .i64 dl), .agg (arr .i64 sK)] rfl (by simp only [abE,abF,e31,e32] <;> rfl) (fun _ _=>by kernel_rfl) ?_
    refine Calls.mono (bM _ _ _ _ _ HD.out aaD.out) ?_
    rintro e w1 ⟨zq,rfl,rq,hb⟩
    exact ⟨_,rfl,gT _ _ ⟨j0,j1,j2,j3,j4,fun _ h=>⟨zq,sI h,rq⟩,j6,j7,j8,j9,j10,j11,j12,j13,oL,pG,hB.kept hb⟩⟩
   refine bI.cons (fun fF bF uF kF fJ jZ mD dh fU gT=>?_) ?_
   ·obtain ⟨j0,j1,j2,j3,j4,j5,j6,j7,j8,j9,j10,j11,j12,j13,oL,pG,hB⟩:=fJ
    refine fQ rfl 134 [Operand.const (Value.int IntKind.i64 1)] _ [.int .i64 1] rfl (by simp only [abE,abF] <;> rfl) (fun _ _=>by kernel_rfl) ?_
    refine Calls.mono (gq 1 _ (by decide)) ?_
    rintro e w1 ⟨zq,rfl,rq,hb⟩
    exact ⟨_,rfl,gT _ _ ⟨j0,j1,j2,j3,j4,j5,fun _ h=>⟨zq,sI h,rq⟩,j7,j8,j9,j10,j11,j12,j13,oL,pG,hB.kept hb⟩⟩
   refine bI.cons (fun fF bF uF kF fJ jZ mD dh fU gT=>?_) ?_
   ·obtain ⟨j0,j1,j2,j3,j4,j5,j6,j7,j8,j9,j10,j11,j12,j13,oL,pG,hB⟩:=fJ
    have y5:=dh 5 (by kernel_rfl)
    obtain ⟨v5,s5⟩:=sE y5
    obtain ⟨xd7_5,rfl,r5⟩:=j5 _ s5
    have Rd7_5:=abC r5
    have HLd7_5:=abC (r5.1)
    have e33:=fU.val 5 33 rfl s5
    have y6:=dh 6 (by kernel_rfl)
    obtain ⟨v6,s6⟩:=sE y6
    obtain ⟨xd7_6,rfl,r6⟩:=j6 _ s6
    have Rd7_6:=abC r6
    have HLd7_6:=abC (r6.1)
    have e34:=fU.val 6 34 rfl s6
    refine fQ rfl 142 [Operand.tmp 33,Operand.tmp 34] _ [.agg (arr .i64 xd7_5), .agg (arr .i64 xd7_6)] rfl (by simp only [abE,abF,e33,e34] <;> rfl) (fun _ _=>by kernel_rfl) ?_
    refine Calls.mono (iZ _ _ _ _ _ Rd7_5.out Rd7_6.out) ?_
    rintro e w1 ⟨zq,rfl,rq,hb⟩
    exact ⟨_,rfl,gT _ _ ⟨j0,j1,j2,j3,j4,j5,j6,fun _ h=>⟨zq,sI h,rq⟩,j8,j9,j10,j11,j12,j13,oL,pG,hB.kept hb⟩⟩
   refine bI.cons (fun fF bF uF kF fJ jZ mD dh fU gT=>?_) ?_
   ·obtain ⟨j0,j1,j2,j3,j4,j5,j6,j7,j8,j9,j10,j11,j12,j13,oL,pG,hB⟩:=fJ
    have y7:=dh 7 (by kernel_rfl)
    obtain ⟨v7,s7⟩:=sE y7
    obtain ⟨xd7_7,rfl,r7⟩:=j7 _ s7
    have Rd7_7:=abC r7
    have HLd7_7:=abC (r7.1)
    have e35:=fU.val 7 35 rfl s7
    refine fQ rfl 130 [Operand.tmp 35] _ [.agg (arr .i64 xd7_7)] rfl (by simp only [abE,abF,e35] <;> rfl) (fun _ _=>by kernel_rfl) ?_
    refine Calls.mono (FU _ _ _ Rd7_7.out) ?_
    rintro e w1 ⟨zq,rfl,rq,hb⟩
    exact ⟨_,rfl,gT _ _ ⟨j0,j1,j2,j3,j4,j5,j6,j7,fun _ h=>⟨zq,sI h,rq⟩,j9,j10,j11,j12,j13,oL,pG,hB.kept hb⟩⟩
   refine bI.cons (fun fF bF uF kF fJ jZ mD dh fU gT=>?_) ?_
   ·obtain ⟨j0,j1,j2,j3,j4,j5,j6,j7,j8,j9,j10,j11,j12,j13,oL,pG,hB⟩:=fJ
    have y2:=dh 2 (by kernel_rfl)
    obtain ⟨v2,s2⟩:=sE y2
    obtain ⟨xd7_2,rfl,r2⟩:=j2 _ s2
    have Rd7_2:=abC r2
    have HLd7_2:=abC (r2.1)
    have e30:=fU.val 2 30 rfl s2
    have y8:=dh 8 (by kernel_rfl)
    obtain ⟨v8,s8⟩:=sE y8
    obtain ⟨xd7_8,rfl,r8⟩:=j8 _ s8
    have Rd7_8:=abC r8
    have HLd7_8:=abC (r8.1)
    have e36:=fU.val 8 36 rfl s8
    refine fQ rfl 132 [Operand.tmp 30,Operand.tmp 36] _ [.agg (arr .i64 xd7_2), .agg (arr .i64 xd7_8)] rfl (by simp only [abE,abF,e30,e36] <;> rfl) (fun _ _=>by kernel_rfl) ?_
    refine Calls.mono (bM _ _ _ _ _ Rd7_2.out Rd7_8.out) ?_
    rintro e w1 ⟨zq,rfl,rq,hb⟩
    exact ⟨_,rfl,gT _ _ ⟨j0,j1,j2,j3,j4,j5,j6,j7,j8,fun _ h=>⟨zq,sI h,rq⟩,j10,j11,j12,j13,oL,pG,hB.kept hb⟩⟩
   refine bI.cons (fun fF bF uF kF fJ jZ mD dh fU gT=>?_) ?_
   ·obtain ⟨j0,j1,j2,j3,j4,j5,j6,j7,j8,j9,j10,j11,j12,j13,oL,pG,hB⟩:=fJ
    have y9:=dh 9 (by kernel_rfl)
    obtain ⟨v9,s9⟩:=sE y9
    obtain ⟨xd7_9,rfl,r9⟩:=j9 _ s9
    have Rd7_9:=abC r9
    have HLd7_9:=abC (r9.1)
    have e37:=fU.val 9 37 rfl s9
    refine fQ rfl 160 [Operand.tmp 37] _ [.agg (arr .i64 xd7_9)] rfl (by simp only [abE,abF,e37] <;> rfl) (fun _ _=>by kernel_rfl) ?_
    refine Calls.mono (Wq _ U _ (by rw [← HUU.out];exact Rd7_9.out) (bC HTI.out hB.below)) ?_
    rintro e w1 ⟨zq,rfl,rq,hb⟩
    exact ⟨_,rfl,gT _ _ ⟨j0,j1,j2,j3,j4,j5,j6,j7,j8,j9,fun _ h=>⟨zq,sI h,rq⟩,j11,j12,j13,oL,pG,hB.kept hb⟩⟩
   refine bI.cons (fun fF bF uF kF fJ jZ mD dh fU gT=>?_) ?_
   ·obtain ⟨j0,j1,j2,j3,j4,j5,j6,j7,j8,j9,j10,j11,j12,j13,oL,pG,hB⟩:=fJ
    have y10:=dh 10 (by kernel_rfl)
    obtain ⟨v10,s10⟩:=sE y10
    obtain ⟨Ku,rfl,r10⟩:=j10 _ s10
    have aaA:=abC r10
    have HLd7_10:=abC (r10.1)
    have e38:=fU.val 10 38 rfl s10
    exact eG rfl (.tuple #[.agg (arr .i64 Ku), .bool (gK U).2]) (by simp only [execOp,e38] <;> first|rfl|kernel_rfl|(go_simp;done)) (gT _ _ ⟨j0,j1,j2,j3,j4,j5,j6,j7,j8,j9,j10,fun _ h=>⟨Ku,sI h,aaA.out⟩,j12,j13,oL,pG,hB⟩)
   refine bI.cons (fun fF bF uF kF fJ jZ mD dh fU gT=>?_) ?_
   ·obtain ⟨j0,j1,j2,j3,j4,j5,j6,j7,j8,j9,j10,j11,j12,j13,oL,pG,hB⟩:=fJ
    have y11:=dh 11 (by kernel_rfl)
    obtain ⟨v11,s11⟩:=sE y11
    obtain ⟨EB,rfl,r11⟩:=j11 _ s11
    have NS:=abC r11
    have Q9:=abC (r11.1)
    have e27:=fU.val 11 27 rfl s11
    have n15:=mD.down 15 12 (by kernel_rfl) jZ
    exact eG rfl (.agg (arr .i64 EB)) (by simp only [execOp,e27] <;> first|rfl|kernel_rfl|(go_simp;done)) (gT _ _ ⟨j0,j1,j2,j3,j4,j5,j6,j7,j8,j9,j10,j11,fun _ h=>⟨EB,sI h,NS.out⟩,j13,oL,pG,(by have h:=hB;rw [n15] at h;rw [VE n15];exact h;decide)⟩)
   refine bI.cons (fun fF bF uF kF fJ jZ mD dh fU gT=>?_) ?_
   ·obtain ⟨j0,j1,j2,j3,j4,j5,j6,j7,j8,j9,j10,j11,j12,j13,oL,pG,hB⟩:=fJ
    have y11:=dh 11 (by kernel_rfl)
    obtain ⟨v11,s11⟩:=sE y11
    obtain ⟨EB,rfl,r11⟩:=j11 _ s11
    have NS:=abC r11
    have Q9:=abC (r11.1)
    have e27:=fU.val 11 27 rfl s11
    exact eG rfl (.bool (gK U).2) (by simp only [execOp,e27] <;> first|rfl|kernel_rfl|(go_simp;done)) (gT _ _ ⟨j0,j1,j2,j3,j4,j5,j6,j7,j8,j9,j10,j11,j12,fun _ h=>⟨sI h,trivial⟩,oL,pG,hB⟩)
   refine bI.cons (fun fF bF uF kF fJ jZ mD dh fU gT=>?_) ?_
   ·obtain ⟨j0,j1,j2,j3,j4,j5,j6,j7,j8,j9,j10,j11,j12,j13,oL,pG,hB⟩:=fJ
    have n15:=mD.down 15 14 (by kernel_rfl) jZ
    refine bA rfl 125 rfl _ (dO.out _) ?_
    have hB1:bO w (uF.alloc (.cells (arr .i64 ze) 125)) ([(w.heap.size,arr .u8 ms, 25),(w.heap.size+1,arr .i64 zp, 127),(TH,arr .i64 qG, 125),(CO,arr .i64 sK, 125)] ++ (ent ((some (.pointer (some ⟨uF.heap.size,0,none⟩)):Option Value)) ((if (fF 15).isSome=true then Z0 (fF 12) else arr .i64 ze)) 125)):=hB.ins (a:=[(w.heap.size,arr .u8 ms, 25),(w.heap.size+1,arr .i64 zp, 127),(TH,arr .i64 qG, 125),(CO,arr .i64 sK, 125)]) (b:=[]) _ _ (by rw [jZ,n15];simp only [uf,abM,abN,abO,abP]) (by rw [n15];simp only [A9,abM,abN,abO,abP,Option.isSome_none,Bool.false_eq_true,if_false])
    exact gT _ _ ⟨j0,j1,j2,j3,j4,j5,j6,j7,j8,j9,j10,j11,j12,j13,fun _ h=>⟨_,sI h⟩,pG,hB1⟩
   refine bI.cons (fun fF bF uF kF fJ jZ mD dh fU gT=>?_) ?_
   ·obtain ⟨j0,j1,j2,j3,j4,j5,j6,j7,j8,j9,j10,j11,j12,j13,oL,pG,hB⟩:=fJ
    have y14:=dh 14 (by kernel_rfl)
    obtain ⟨v14,s14⟩:=sE y14
    obtain ⟨Qx,rfl⟩:=oL _ s14
    have e7:=fU.val 14 7 rfl s14
    have y12:=dh 12 (by kernel_rfl)
    obtain ⟨v12,s12⟩:=sE y12
    obtain ⟨Kt,rfl,r12⟩:=j12 _ s12
    have NR:=abC r12
    have yO:=abC (r12.1)
    have e39:=fU.val 12 39 rfl s12
    have hB':=hB
    rw [s14,s12,jZ] at hB'
    refine aI rfl 125 (.tmp 7) (.tmp 39) rfl (Qx) (arr .i64 ze) _ 125 (hB'.get 4 rfl) e7 e39 (av _ _ yO.out dG.out) (dx yO.out) (ak _ _) ?_
    intro w1 hb1 hk1 hz1
    have hB1:bO w w1 ([(w.heap.size,arr .u8 ms, 25),(w.heap.size+1,arr .i64 zp, 127),(TH,arr .i64 qG, 125),(CO,arr .i64 sK, 125)] ++ (ent (fF 14) ((if ((some undef:Option Value)).isSome=true then Z0 (fF 12) else arr .i64 ze)) 125)):=by rw [s14,s12];exact hB'.put 4 rfl hk1 hb1
    exact gT undef w1 ⟨j0,j1,j2,j3,j4,j5,j6,j7,j8,j9,j10,j11,j12,j13,oL,pG,hB1⟩
   refine bI.cons (fun fF bF uF kF fJ jZ mD dh fU gT=>?_) ?_
   ·obtain ⟨j0,j1,j2,j3,j4,j5,j6,j7,j8,j9,j10,j11,j12,j13,oL,pG,hB⟩:=fJ
    obtain ⟨e40,p40⟩:=fU.at dh 13 40 (by kernel_rfl) rfl j13
    exact eG rfl (.bool (gK U).2) (by simp only [execOp,e40] <;> first|rfl|kernel_rfl|(go_simp;done)) (gT _ _ ⟨j0,j1,j2,j3,j4,j5,j6,j7,j8,j9,j10,j11,j12,j13,oL,fun _ h=>⟨sI h,trivial⟩,hB⟩)
   exact bI.nil
  case ed7 =>
  intro fF ud7 hall fJ
  obtain ⟨j0,j1,j2,j3,j4,j5,j6,j7,j8,j9,j10,j11,j12,j13,oL,pG,hB⟩:=fJ
  obtain ⟨v0,h0⟩:=sE (hall 0 (by decide))
  obtain ⟨rfl,p0⟩:=j0 _ h0
  obtain ⟨v1,h1⟩:=sE (hall 1 (by decide))
  obtain ⟨xd7_1,rfl,r1⟩:=j1 _ h1
  have Rd7_1:=abC r1
  have HLd7_1:=abC (r1.1)
  clear r1
  obtain ⟨v2,h2⟩:=sE (hall 2 (by decide))
  obtain ⟨xd7_2,rfl,r2⟩:=j2 _ h2
  have Rd7_2:=abC r2
  have HLd7_2:=abC (r2.1)
  clear r2
  obtain ⟨v3,h3⟩:=sE (hall 3 (by decide))
  obtain ⟨rfl,p3⟩:=j3 _ h3
  obtain ⟨v4,h4⟩:=sE (hall 4 (by decide))
  obtain ⟨rfl,p4⟩:=j4 _ h4
  obtain ⟨v5,h5⟩:=sE (hall 5 (by decide))
  obtain ⟨xd7_5,rfl,r5⟩:=j5 _ h5
  have Rd7_5:=abC r5
  have HLd7_5:=abC (r5.1)
  clear r5
  obtain ⟨v6,h6⟩:=sE (hall 6 (by decide))
  obtain ⟨xd7_6,rfl,r6⟩:=j6 _ h6
  have Rd7_6:=abC r6
  have HLd7_6:=abC (r6.1)
  clear r6
  obtain ⟨v7,h7⟩:=sE (hall 7 (by decide))
  obtain ⟨xd7_7,rfl,r7⟩:=j7 _ h7
  have Rd7_7:=abC r7
  have HLd7_7:=abC (r7.1)
  clear r7
  obtain ⟨v8,h8⟩:=sE (hall 8 (by decide))
  obtain ⟨xd7_8,rfl,r8⟩:=j8 _ h8
  have Rd7_8:=abC r8
  have HLd7_8:=abC (r8.1)
  clear r8
  obtain ⟨v9,h9⟩:=sE (hall 9 (by decide))
  obtain ⟨xd7_9,rfl,r9⟩:=j9 _ h9
  have Rd7_9:=abC r9
  have HLd7_9:=abC (r9.1)
  clear r9
  obtain ⟨v10,h10⟩:=sE (hall 10 (by decide))
  obtain ⟨Ku,rfl,r10⟩:=j10 _ h10
  have aaA:=abC r10
  have HLd7_10:=abC (r10.1)
  clear r10
  obtain ⟨v11,h11⟩:=sE (hall 11 (by decide))
  obtain ⟨EB,rfl,r11⟩:=j11 _ h11
  have NS:=abC r11
  have Q9:=abC (r11.1)
  clear r11
  obtain ⟨v12,h12⟩:=sE (hall 12 (by decide))
  obtain ⟨Kt,rfl,r12⟩:=j12 _ h12
  have NR:=abC r12
  have yO:=abC (r12.1)
  clear r12
  obtain ⟨v13,h13⟩:=sE (hall 13 (by decide))
  obtain ⟨rfl,p13⟩:=j13 _ h13
  obtain ⟨v14,h14⟩:=sE (hall 14 (by decide))
  obtain ⟨Qx,rfl⟩:=oL _ h14
  obtain ⟨v15,h15⟩:=sE (hall 15 (by decide))
  obtain ⟨v16,h16⟩:=sE (hall 16 (by decide))
  obtain ⟨rfl,p16⟩:=pG _ h16
  rw [h14,h15,h12] at hB
  have HBd7:Hid (bO w ud7 [(w.heap.size,arr .u8 ms, 25),(w.heap.size+1,arr .i64 zp, 127),(TH,arr .i64 qG, 125),(CO,arr .i64 sK, 125),(Qx,arr .i64 Kt, 125)]):=abC hB
  simp only [laid,Nat.zero_add,Nat.reduceAdd,h0,h1,h2,h3,h4,h5,h6,h7,h8,h9,h10,h11,h12,h13,h14,h15,h16,Act.put,sA,sZ,sS]
  clear j0 j1 j2 j3 j4 j5 j6 j7 j8 j9 j10 j11 j12 j13 oL pG hB h0 h1 h2 h3 h4 h5 h6 h7 h8 h9 h10 h11 h12 h13 h14 h15 h16 hall fF HB714
  clear p0 p3 p4 p13 p16
  (try simp only [Exit.then])
  have gu:=HBd7
  have HXR:=NR
  have jc:=yO
  clear HBd7 NR
  generalize Kt=xr at gu HXR jc ⊢
  generalize ud7=wy at gu ⊢
  generalize Qx=gx at gu ⊢
  obtain ⟨r,hr⟩:∃ r,r=(gK U).1:=⟨_,rfl⟩
  have HR:=abC hr
  rw [← hr] at HXR
  have hrl:r < p:=by rw [hr];exact IG U
  have iR:=abC hrl
  clear hr hrl
  cases hok:(gK U).2 with
  | false =>
   have vX:=abC hok
   clear hok
   go_wp2_with (first|((with_reducible refine aS 43 ?_);refine wpList_build (by rfl) 127 _ rfl #[] rfl _ (HBP.out _) ?_)|((with_reducible refine aT 2 ?_);refine lS rfl rfl gu 1 rfl rfl rfl (av _ _ jF.out jF.out) (lI jF.out) (ak _ _) ?_;intro w99 HBZ))
   (try simp only [Exit.then])
   refine bodyPost_ret (aN rfl _ _ (w.heap.size+1) 127 _ (0,0) _ _ rfl (HBZ.out.get 1 rfl) Tryz.underlying127 rfl (lI jF.out) rfl) rfl ?_
   have hev:=HE2'.out vX.out
   exact ⟨zp,by rw [hev];rfl,jF.out,(fun P h=>by rw [hev] at h;cases h),HBZ.out.below⟩
  | true =>
   have vX:=abC hok
   clear hok
   have how:=fun w=>nQ xr r w HXR.out
   have hz:=DW (Nat.lt_trans iR.out KX) (show 0 < 256 ^ 32 by decide)
   rw [← HNz.out] at hz
   have hlo:(aW (bD 256 32 r)).getD 0 0=((r % 256:Nat):Int):=by rw [bH,zZ]
   obtain ⟨rw8,hrw⟩:∃ x,x=aW (bD 256 32 r):=⟨_,rfl⟩
   have qV:Hid (rw8.length=32):=abC (by rw [hrw,aG,aK])
   rw [← hrw] at how hz hlo
   have HOW:=abC how
   have HZZ:=abC hz
   have HLO:=abC hlo
   clear how hz hlo hrw
   go_upto_region 11 with (first|((with_reducible refine aS 44 ?_);refine lL rfl rfl (gu.out.get 4 rfl) rfl (aj _ _) Tryz.underlying125 rfl (bK jc.out) ?_)|((with_reducible show Calls _ 131 #[.agg _] _ _);go_at_call 131; refine lC (HOW.out _) gu ?_;intro w715 HB715)|((with_reducible refine aS 9 ?_);refine lA rfl rfl (dB.out _) HB715 ?_;intro g716 w716 HB716; clear HB715)|((with_reducible refine aT 9 (x:=(Operand.tmp 45)) ?_);refine lS rfl rfl HB716 5 rfl rfl rfl (av _ _ qV.out dw.out) (bG qV.out) (ak _ _) ?_;intro w717 Es;clear HB716))
   (try simp only [World.size_alloc,Act.put,sA,sZ,sS])
   by_cases hz:r=0∧b=1
   ·obtain ⟨hz1,hz2⟩:=hz
    have hzb:=HZZ.out
    rw [decide_eq_true hz1] at hzb
    have HZB:=abC hzb
    have HNO:=abC (HE3'.out hz2 (by rw [← HR.out];exact hz1))
    have hb1:((b:Int) == 1)=true:=by rw [hz2];rfl
    clear hzb hz1 hz2
    go_upto_region 12 with (first|((with_reducible refine aS 46 ?_);refine lL rfl rfl (Es.out.get 5 rfl) rfl (aj _ _) Tryz.underlying25 rfl (bU qV.out) ?_)|((with_reducible refine aS 47 ?_);refine wpList_build (by rfl) 25 _ rfl #[] rfl _ (HBN.out _) ?_)|((with_reducible refine aS 48 ?_);refine iD (by rfl) 25 _ _ (.tmp 46) (.tmp 47) rfl 32 .u8 .u8 Tryz.underlying25 Tryz.underlying5 (fun w=>by kernel_rfl) (by kernel_rfl) rw8 zn rfl rfl qV.out dw.out true HZB.out ?_))
    go_wp2_with (first|((with_reducible refine aS 53 ?_);refine wpList_build (by rfl) 127 _ rfl #[] rfl _ (HBP.out _) ?_)|((with_reducible refine aT 2 ?_);refine lS rfl rfl Es 1 rfl rfl rfl (av _ _ jF.out jF.out) (lI jF.out) (ak _ _) ?_;intro w99 HBZ))
    (try simp only [Exit.then])
    refine bodyPost_ret (aN rfl _ _ (w.heap.size+1) 127 _ (0,0) _ _ rfl (HBZ.out.get 1 rfl) Tryz.underlying127 rfl (lI jF.out) rfl) rfl ?_
    have hev:=HNO.out
    exact ⟨zp,by rw [hev];rfl,jF.out,(fun P h=>by rw [hev] at h;cases h),HBZ.out.below⟩
   ·have HSO:=abC (HE4'.out r hyp HR.out.symm vX.out hz)
    have hzk:=abC hz
    go_cut [52] (fun v52 wx=>v52 = .bool false∧bO w wx [(w.heap.size,arr .u8 ms, 25),(w.heap.size+1,arr .i64 zp, 127),(TH,arr .i64 qG, 125),(CO,arr .i64 sK, 125),(gx,arr .i64 xr, 125),(g716,(arr .u8 rw8), 25)])
    case first =>
     by_cases hz1:r=0
     ·have hzb:=HZZ.out
      rw [decide_eq_true hz1] at hzb
      have HZB:=abC hzb
      clear hzb hz
      have hb0:((b:Int) == 1)=false:=by rw [beq_eq_false_iff_ne];have:=HB2.out;have:¬ b=1:=fun e=>hzk.out ⟨hz1,e⟩;omega
      go_wp2_with (first|((with_reducible refine aS 46 ?_);refine lL rfl rfl (Es.out.get 5 rfl) rfl (aj _ _) Tryz.underlying25 rfl (bU qV.out) ?_)|((with_reducible refine aS 47 ?_);refine wpList_build (by rfl) 25 _ rfl #[] rfl _ (HBN.out _) ?_)|((with_reducible refine aS 48 ?_);refine iD (by rfl) 25 _ _ (.tmp 46) (.tmp 47) rfl 32 .u8 .u8 Tryz.underlying25 Tryz.underlying5 (fun w=>by kernel_rfl) (by kernel_rfl) rw8 zn rfl rfl qV.out dw.out true HZB.out ?_))
      go_meet
      exact ⟨rfl,Es.out⟩
     ·have hzb:=HZZ.out
      rw [decide_eq_false hz1] at hzb
      have HZB:=abC hzb
      clear hzb hz
      go_wp2_with (first|((with_reducible refine aS 46 ?_);refine lL rfl rfl (Es.out.get 5 rfl) rfl (aj _ _) Tryz.underlying25 rfl (bU qV.out) ?_)|((with_reducible refine aS 47 ?_);refine wpList_build (by rfl) 25 _ rfl #[] rfl _ (HBN.out _) ?_)|((with_reducible refine aS 48 ?_);refine iD (by rfl) 25 _ _ (.tmp 46) (.tmp 47) rfl 32 .u8 .u8 Tryz.underlying25 Tryz.underlying5 (fun w=>by kernel_rfl) (by kernel_rfl) rw8 zn rfl rfl qV.out dw.out false HZB.out ?_))
      go_meet
      exact ⟨rfl,Es.out⟩
    case rest =>
    obtain ⟨wz,rfl⟩:∃ x:World,x=wc:=⟨_,rfl⟩
    obtain ⟨rfl,hbc⟩:=hcut
    have Rn:=abC hbc
    clear hbc
    have q0:=aP (Rn.out.get 5 rfl) 0 (by rw [qV.out];decide)
    rw [HLO.out] at q0
    have ha2:=ZY (r % 256) (abH _ (by decide))
    rw [Nat.mod_mod_of_dvd r (show 2 ∣ 256 by decide)] at ha2
    have hbb:=HB2.out
    by_cases hf:r % 2≠b
    ·have HFL:=abC hf
     have hw:(bits .and .u8 ((r % 256:Nat):Int) 1 == (b:Int))=false:=by rw [ha2];rw [beq_eq_false_iff_ne];omega
     generalize r % 256=rb at q0 hw
     clear hf ha2
     go_upto_region 13 with fail
     go_upto_region 15 with (first|((with_reducible refine aS 59 ?_);refine wpList_build (by rfl) 125 _ rfl #[] rfl _ (CW.out _) ?_)|((with_reducible refine aS 60 ?_);refine lL rfl rfl (Rn.out.get 4 rfl) rfl (aj _ _) Tryz.underlying125 rfl (bK jc.out) ?_)|((with_reducible show Calls _ 143 #[.agg _, .agg _] _ _);go_at_call 143; refine lZ (jm _ _ _ _ _ HEz.out HXR.out) Rn ?_;intro Va w718 aaC HB718;have En:=abC aaC.out.1)|((with_reducible refine aT 7 (x:=(Operand.tmp 61)) ?_);refine lS rfl rfl HB718 4 rfl rfl rfl (av _ _ En.out jc.out) (dx En.out) (ak _ _) ?_;intro w719 uG;clear HB718))
     have d9:=abC ((Kept.refl (fun x=>x=w.heap.size+1) w719).drew)
     have eF:=abC (uG.out.drew)
     refine wp_region_held_drew (S:=(fun w'=>Kept (fun x=>x=w.heap.size+1) w719 w')) (by kernel_rfl) (d9.out) (fun hHeld=>?_)
     generalize w719.drew=wd at d9 eF hHeld ⊢
     refine' wpAnyH_take (i:=0) (oi:=(⟨some 62,_,_,_,_,none⟩:Oper)) (v:=_) rfl (by kernel_rfl) (by kernel_rfl) (by kernel_rfl) (fun _ _ _ h=>h) (yieldsIf_load_mid (by rfl) _ _ rfl _ _ rfl (Va.map (Value.int .i64)) _ ?hS720 Tryz.underlying125 rfl (by rw [abD];exact bK En.out)) (by assumption) ?rest720
     case hS720=>(intro w hSw;(try dsimp only at hSw);exact aO (hSw.blk (uG.out.get 4 rfl) (uG.out.ne 4 1 rfl rfl (by decide))) 0 _ (by rw [abD];exact aj _ _))
     (try simp only [Act.put,sA,sZ,sS])
     refine' wpAnyH_take (i:=1) (oi:=(⟨some 63,_,_,_,_,none⟩:Oper)) (v:=_) rfl (by kernel_rfl) (by kernel_rfl) (by kernel_rfl) (fun _ _ _ h=>h) (yieldsIf_load_mid (by rfl) _ _ rfl _ _ rfl (qG.map (Value.int .i64)) _ ?hS721 Tryz.underlying125 rfl (by rw [abD];exact bK oG.out)) (by assumption) ?rest721
     case hS721=>(intro w hSw;(try dsimp only at hSw);exact aO (hSw.blk (uG.out.get 2 rfl) (uG.out.ne 2 1 rfl rfl (by decide))) 0 _ (by rw [abD];exact aj _ _))
     (try simp only [Act.put,sA,sZ,sS])
     refine' wpAnyH_take (i:=3) (oi:=(⟨some 65,_,_,_,_,none⟩:Oper)) (v:=_) rfl (by kernel_rfl) (by kernel_rfl) (by kernel_rfl) (fun _ _ _ h=>h) (yieldsIf_load_mid (by rfl) _ _ rfl _ _ rfl (Va.map (Value.int .i64)) _ ?hS722 Tryz.underlying125 rfl (by rw [abD];exact bK En.out)) (by assumption) ?rest722
     case hS722=>(intro w hSw;(try dsimp only at hSw);exact aO (hSw.blk (uG.out.get 4 rfl) (uG.out.ne 4 1 rfl rfl (by decide))) 0 _ (by rw [abD];exact aj _ _))
     (try simp only [Act.put,sA,sZ,sS])
     refine' wpAnyH_take (i:=4) (oi:=(⟨some 66,_,_,_,_,none⟩:Oper)) (v:=_) rfl (by kernel_rfl) (by kernel_rfl) (by kernel_rfl) (fun _ _ _ h=>h) (yieldsIf_load_mid (by rfl) _ _ rfl _ _ rfl (qG.map (Value.int .i64)) _ ?hS723 Tryz.underlying125 rfl (by rw [abD];exact bK oG.out)) (by assumption) ?rest723
     case hS723=>(intro w hSw;(try dsimp only at hSw);exact aO (hSw.blk (uG.out.get 2 rfl) (uG.out.ne 2 1 rfl rfl (by decide))) 0 _ (by rw [abD];exact aj _ _))
     (try simp only [Act.put,sA,sZ,sS])
     refine pR 2 ⟨some 64,_,_,_,_,none⟩ (fun K hK=>?_)
     go_simp
     go_at_call 134
     refine (gq 1 _ (by decide)).mono ?_
     rintro e w724 ⟨z724,rfl,h724,Yo⟩
     have HZ724:=abC h724
     have HL724:=abC h724.1
     clear h724
     have HB724:=abC (eF.out.kept Yo)
     have aaX:=abC (d9.out.trans (Kept.of_below Yo))
     clear Yo
     (try dsimp only)
     clear eF
     clear d9
     clear hHeld
     refine hK.out _ _ (aaX.out) (fun hHeld=>?_)
     clear hK K
     (try simp only [Act.put,sA,sZ,sS])
     refine pR 5 ⟨some 67,_,_,_,_,none⟩ (fun K hK=>?_)
     go_simp
     go_at_call 132
     refine (bM _ _ _ _ _ aaC.out Bt.out).mono ?_
     rintro e w725 ⟨z725,rfl,h725,Ym⟩
     have HZ725:=abC h725
     have HL725:=abC h725.1
     clear h725
     have HB725:=abC (HB724.out.kept Ym)
     have aaW:=abC (aaX.out.trans (Kept.of_below Ym))
     clear Ym
     (try dsimp only)
     clear HB724
     clear aaX
     clear hHeld
     refine hK.out _ _ (aaW.out) (fun hHeld=>?_)
     clear hK K
     (try simp only [Act.put,sA,sZ,sS])
     obtain ⟨v727,Qo⟩:∃ x,x=Va ++ qG ++ z724 ++ z725:=⟨_,rfl⟩
     have HR727:Hid (∀ w,(Instr.build 127 #[(0, .agg (arr .i64 Va)),(1, .agg (arr .i64 qG)),(2, .agg (arr .i64 z724)),(3, .agg (arr .i64 z725))]).run Tryz.prog w = .ok (.agg (arr .i64 v727)) w):=abC (fun w=>by rw [Qo];exact qm _ _ _ _ En.out oG.out HL724.out HL725.out w)
     have Jq:Hid (v727.length=64):=abC (by rw [Qo];exact abB En.out oG.out HL724.out HL725.out)
     have HV727:=abC Qo
     clear Qo
     refine wpAnyH_take (i:=6) (oi:=(⟨some 68,_,_,_,_,none⟩:Oper)) (v:=(.agg (arr .i64 v727))) rfl (by kernel_rfl) (by kernel_rfl) (by kernel_rfl) (fun _ _ _ h=>h) (Or.inl ⟨by rfl,?hy726⟩) (by assumption) ?rest726
     case hy726=>(intro w hSw;(try dsimp only at hSw);exact rF 127 _ rfl #[(0, .agg (arr .i64 Va)),(1, .agg (arr .i64 qG)),(2, .agg (arr .i64 z724)),(3, .agg (arr .i64 z725))] rfl _ (HR727.out _))
     (try simp only [Act.put,sA,sZ,sS])
     refine pR 7 ⟨none,_,_,_,_,none⟩ (fun K hK=>?_)
     refine aI rfl 127 (.tmp 2) (.tmp 68) rfl (w.heap.size+1) _ _ _ (HB725.out.get 1 rfl) rfl rfl (av _ _ Jq.out jF.out) (lI Jq.out) (ak _ _) ?_
     intro w728 hb728 X8 hz728
     have HB728:=abC (HB725.out.put 1 rfl X8 hb728)
     have HK728:=abC (aaW.out.trans X8)
     clear hb728 X8 hz728
     clear HB725
     clear aaW
     clear hHeld
     refine hK.out _ _ (HK728.out) (fun hHeld=>?_)
     clear hK K
     (try simp only [Act.put])
     refine pT 8 ⟨some 3,_,_,_,_,none⟩ (?v729) ?_
     (try simp only [Act.put,sA,sZ,sS])
     refine wpAnyH_done (by kernel_rfl) ?_ _
     have HBQ:=HB728
     have HWQ:=Jq
     have HF0:=HV727
     have HF1:=aaC
     have HF2:=Bt
     have HF3:=HZ724
     have HF4:=HZ725
     (try simp only [Exit.then])
     go_wp2_with fail
     refine bodyPost_ret (aN rfl _ _ (w.heap.size+1) 127 _ (0,0) _ _ rfl (HBQ.out.get 1 rfl) Tryz.underlying127 rfl (lI HWQ.out) rfl) rfl ?_
     have hev:=HSO.out
     rw [if_pos HFL.out] at hev
     refine ⟨_,by rw [hev];rfl,HWQ.out,(fun P h=>?_),HBQ.out.below⟩
     rw [hev] at h
     cases h
     exact ⟨_,_,_,_,HF0.out,HF1.out,HF2.out,HF3.out,HF4.out⟩
    ·have HFL:=abC hf
     have hw:(bits .and .u8 ((r % 256:Nat):Int) 1 == (b:Int))=true:=by rw [ha2];rw [beq_iff_eq];omega
     generalize r % 256=rb at q0 hw
     clear hf ha2
     go_upto_region 13 with fail
     go_upto_region 15 with fail
     have d9:=abC ((Kept.refl (fun x=>x=w.heap.size+1) wz).drew)
     have eF:=abC (Rn.out.drew)
     refine wp_region_held_drew (S:=(fun w'=>Kept (fun x=>x=w.heap.size+1) wz w')) (by kernel_rfl) (d9.out) (fun hHeld=>?_)
     generalize wz.drew=wd at d9 eF hHeld ⊢
     refine' wpAnyH_take (i:=0) (oi:=(⟨some 62,_,_,_,_,none⟩:Oper)) (v:=_) rfl (by kernel_rfl) (by kernel_rfl) (by kernel_rfl) (fun _ _ _ h=>h) (yieldsIf_load_mid (by rfl) _ _ rfl _ _ rfl (xr.map (Value.int .i64)) _ ?hS730 Tryz.underlying125 rfl (by rw [abD];exact bK jc.out)) (by assumption) ?rest730
     case hS730=>(intro w hSw;(try dsimp only at hSw);exact aO (hSw.blk (Rn.out.get 4 rfl) (Rn.out.ne 4 1 rfl rfl (by decide))) 0 _ (by rw [abD];exact aj _ _))
     (try simp only [Act.put,sA,sZ,sS])
     refine' wpAnyH_take (i:=1) (oi:=(⟨some 63,_,_,_,_,none⟩:Oper)) (v:=_) rfl (by kernel_rfl) (by kernel_rfl) (by kernel_rfl) (fun _ _ _ h=>h) (yieldsIf_load_mid (by rfl) _ _ rfl _ _ rfl (qG.map (Value.int .i64)) _ ?hS731 Tryz.underlying125 rfl (by rw [abD];exact bK oG.out)) (by assumption) ?rest731
     case hS731=>(intro w hSw;(try dsimp only at hSw);exact aO (hSw.blk (Rn.out.get 2 rfl) (Rn.out.ne 2 1 rfl rfl (by decide))) 0 _ (by rw [abD];exact aj _ _))
     (try simp only [Act.put,sA,sZ,sS])
     refine' wpAnyH_take (i:=3) (oi:=(⟨some 65,_,_,_,_,none⟩:Oper)) (v:=_) rfl (by kernel_rfl) (by kernel_rfl) (by kernel_rfl) (fun _ _ _ h=>h) (yieldsIf_load_mid (by rfl) _ _ rfl _ _ rfl (xr.map (Value.int .i64)) _ ?hS732 Tryz.underlying125 rfl (by rw [abD];exact bK jc.out)) (by assumption) ?rest732
     case hS732=>(intro w hSw;(try dsimp only at hSw);exact aO (hSw.blk (Rn.out.get 4 rfl) (Rn.out.ne 4 1 rfl rfl (by decide))) 0 _ (by rw [abD];exact aj _ _))
     (try simp only [Act.put,sA,sZ,sS])
     refine' wpAnyH_take (i:=4) (oi:=(⟨some 66,_,_,_,_,none⟩:Oper)) (v:=_) rfl (by kernel_rfl) (by kernel_rfl) (by kernel_rfl) (fun _ _ _ h=>h) (yieldsIf_load_mid (by rfl) _ _ rfl _ _ rfl (qG.map (Value.int .i64)) _ ?hS733 Tryz.underlying125 rfl (by rw [abD];exact bK oG.out)) (by assumption) ?rest733
     case hS733=>(intro w hSw;(try dsimp only at hSw);exact aO (hSw.blk (Rn.out.get 2 rfl) (Rn.out.ne 2 1 rfl rfl (by decide))) 0 _ (by rw [abD];exact aj _ _))
     (try simp only [Act.put,sA,sZ,sS])
     refine pR 2 ⟨some 64,_,_,_,_,none⟩ (fun K hK=>?_)
     go_simp
     go_at_call 134
     refine (gq 1 _ (by decide)).mono ?_
     rintro e w734 ⟨z734,rfl,h734,Yl⟩
     have HZ734:=abC h734
     have HL734:=abC h734.1
     clear h734
     have HB734:=abC (eF.out.kept Yl)
     have XY:=abC (d9.out.trans (Kept.of_below Yl))
     clear Yl
     (try dsimp only)
     clear eF
     clear d9
     clear hHeld
     refine hK.out _ _ (XY.out) (fun hHeld=>?_)
     clear hK K
     (try simp only [Act.put,sA,sZ,sS])
     refine pR 5 ⟨some 67,_,_,_,_,none⟩ (fun K hK=>?_)
     go_simp
     go_at_call 132
     refine (bM _ _ _ _ _ HXR.out Bt.out).mono ?_
     rintro e w735 ⟨z735,rfl,h735,Yk⟩
     have HZ735:=abC h735
     have HL735:=abC h735.1
     clear h735
     have HB735:=abC (HB734.out.kept Yk)
     have XU:=abC (XY.out.trans (Kept.of_below Yk))
     clear Yk
     (try dsimp only)
     clear HB734
     clear XY
     clear hHeld
     refine hK.out _ _ (XU.out) (fun hHeld=>?_)
     clear hK K
     (try simp only [Act.put,sA,sZ,sS])
     obtain ⟨v737,Qn⟩:∃ x,x=xr ++ qG ++ z734 ++ z735:=⟨_,rfl⟩
     have HR737:Hid (∀ w,(Instr.build 127 #[(0, .agg (arr .i64 xr)),(1, .agg (arr .i64 qG)),(2, .agg (arr .i64 z734)),(3, .agg (arr .i64 z735))]).run Tryz.prog w = .ok (.agg (arr .i64 v737)) w):=abC (fun w=>by rw [Qn];exact qm _ _ _ _ jc.out oG.out HL734.out HL735.out w)
     have Jp:Hid (v737.length=64):=abC (by rw [Qn];exact abB jc.out oG.out HL734.out HL735.out)
     have HV737:=abC Qn
     clear Qn
     refine wpAnyH_take (i:=6) (oi:=(⟨some 68,_,_,_,_,none⟩:Oper)) (v:=(.agg (arr .i64 v737))) rfl (by kernel_rfl) (by kernel_rfl) (by kernel_rfl) (fun _ _ _ h=>h) (Or.inl ⟨by rfl,?hy736⟩) (by assumption) ?rest736
     case hy736=>(intro w hSw;(try dsimp only at hSw);exact rF 127 _ rfl #[(0, .agg (arr .i64 xr)),(1, .agg (arr .i64 qG)),(2, .agg (arr .i64 z734)),(3, .agg (arr .i64 z735))] rfl _ (HR737.out _))
     (try simp only [Act.put,sA,sZ,sS])
     refine pR 7 ⟨none,_,_,_,_,none⟩ (fun K hK=>?_)
     refine aI rfl 127 (.tmp 2) (.tmp 68) rfl (w.heap.size+1) _ _ _ (HB735.out.get 1 rfl) rfl rfl (av _ _ Jp.out jF.out) (lI Jp.out) (ak _ _) ?_
     intro w738 hb738 X7 hz738
     have HB738:=abC (HB735.out.put 1 rfl X7 hb738)
     have HK738:=abC (XU.out.trans X7)
     clear hb738 X7 hz738
     clear HB735
     clear XU
     clear hHeld
     refine hK.out _ _ (HK738.out) (fun hHeld=>?_)
     clear hK K
     (try simp only [Act.put])
     refine pT 8 ⟨some 3,_,_,_,_,none⟩ (?v739) ?_
     (try simp only [Act.put,sA,sZ,sS])
     refine wpAnyH_done (by kernel_rfl) ?_ _
     have HBQ:=HB738
     have HWQ:=Jp
     have HF0:=HV737
     have HF1:=HXR
     have HF2:=Bt
     have HF3:=HZ734
     have HF4:=HZ735
     (try simp only [Exit.then])
     go_wp2_with fail
     refine bodyPost_ret (aN rfl _ _ (w.heap.size+1) 127 _ (0,0) _ _ rfl (HBQ.out.get 1 rfl) Tryz.underlying127 rfl (lI HWQ.out) rfl) rfl ?_
     have hev:=HSO.out
     rw [if_neg HFL.out] at hev
     refine ⟨_,by rw [hev];rfl,HWQ.out,(fun P h=>?_),HBQ.out.below⟩
     rw [hev] at h
     cases h
     exact ⟨_,_,_,_,HF0.out,HF1.out,HF2.out,HF3.out,HF4.out⟩
end Go.Proofs.YthdgbgleklkaiaaGreatDoor.Rd
