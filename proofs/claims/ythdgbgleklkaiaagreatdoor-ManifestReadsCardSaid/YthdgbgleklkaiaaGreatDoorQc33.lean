/- The document's parts and Public: portcullislaw16.alive: The document's. Condition: as each theorem says. -/

import Derived.Test.YthdgbgleklkaiaaGreatDoorQc23
import Derived.Test.YthdgbgleklkaiaaGreatDoorQc24
import Derived.Test.YthdgbgleklkaiaaGreatDoorQc30
import Derived.Test.YthdgbgleklkaiaaGreatDoorQc31
open Go.Lib renaming hid→abC
open List renaming nil_append→abD,append_nil→abE,append_assoc→abG,cons_append→abH,length_append→abK,length_drop→abL,length_map→abM,map_cons→abO,map_nil→abP,length_take→abQ,take_of_length_le→abT,not_mem_nil→abV
open Nat renaming le_refl→abF,zero_add→abI,reduceAdd→abJ,mod_lt→abN,lt_trans→abR
open Option renaming isSome_none→abS
set_option linter.unusedSimpArgs false
set_option linter.unusedVariables false
set_option maxRecDepth 100000
set_option maxHeartbeats 16000000
namespace Go.Proofs.YthdgbgleklkaiaaGreatDoor.Rd
open Go.RowKit Lm Fp Cu Sc
theorem zH (seed:Nat) (w:World) (hTK:Hb.eP w) :
  Calls Tryz.prog 80 #[.agg (arr .u8 (n32 seed))] w fun e w'=>∃ g c cur,e = .returned (.tuple #[.agg (arr .u8 (n32 (jU seed))), .slice (some ⟨g,0,none⟩) 32 c])∧(w'.heap[g]? = some (.cells cur 5 (0,0))∧w.heap.size≤g∧32≤c∧cur.toList.take 32=(jT seed).map (Value.int .u8))∧Below w.heap.size w w':=by
 have hkb:=eY seed
 have hkl:=cK seed
 have hh:bytes (Hb.hash (n32 seed)):=pQ (n32 seed)
 have hl:(Hb.hash (n32 seed)).length=64:=Hb.dM (n32 seed)
 have h32:(Hb.hash (n32 seed)).take 32=n32 (fD ((Hb.hash (n32 seed)).take 32)):=(tH (nY hh 32) (by rw [abQ,hl];rfl)).symm
 have hlt:fD ((Hb.hash (n32 seed)).take 32) < 2 ^ 256:=by
  have:=yF (nY hh 32)
  rw [abQ,hl] at this
  rwa [show (2:Nat) ^ 256=256 ^ 32 by decide]
 have hsp:jU seed=clamp (fD ((Hb.hash (n32 seed)).take 32)):=rfl
 have hsr:jT seed=(Hb.hash (n32 seed)).drop 32:=rfl
 have hcl:=fun (u:World)=>wW (fD ((Hb.hash (n32 seed)).take 32)) u hlt
 rw [← hsp] at hcl
 rw [show aW (bD 256 32 (fD ((Hb.hash (n32 seed)).take 32)))=n32 (fD ((Hb.hash (n32 seed)).take 32)) from rfl,← h32] at hcl
 have hsh:=fun (u:World) (g:Nat) (t:TypeId) (h:u.heap[g]? = some (.cells (arr .u8 (n32 seed)) t (0,0))) (hk:Hb.eP u)=>Hb.jw (some ⟨g,0,none⟩) 32 32 (n32 seed) u (Sl.bQ h 32 hkl) hkb (by decide) hk
 obtain ⟨sp,hspp⟩:∃ x,x=n32 (jU seed):=⟨_,rfl⟩
 rw [show aW (bD 256 32 (jU seed))=n32 (jU seed) from rfl,← hspp] at hcl
 rw [← hspp]
 have Bz:Hid (sp.length=32):=abC (by rw [hspp];exact cK _)
 rw [hsr]
 obtain ⟨ks,hks⟩:∃ x,x=n32 seed:=⟨_,rfl⟩
 rw [← hks] at hsh hl hcl hkl ⊢
 obtain ⟨hs,hhs⟩:∃ x,x=Hb.hash ks:=⟨_,rfl⟩
 rw [← hhs] at hsh hl hcl ⊢
 obtain ⟨hx0,hh0⟩:∃ x,x=hs.take 32:=⟨_,rfl⟩
 have hs0:=fun (u:World) (g:Nat) (h:u.heap[g]? = some (.cells (arr .u8 hs) 27 (0,0)))=>Sl.EK h 0 32 (by rw [hl];decide)
 rw [List.drop_zero,← hh0] at hs0
 rw [← hh0] at hcl
 have hs1:=fun (u:World) (g:Nat) (h:u.heap[g]? = some (.cells (arr .u8 hs) 27 (0,0)))=>Sl.EK h 32 32 (by rw [hl];decide)
 obtain ⟨hx1,yG⟩:∃ x,x=hs.drop 32:=⟨_,rfl⟩
 rw [← yG,abT (show hx1.length≤32 by rw [yG,abL,hl];decide)] at hs1
 rw [← yG]
 have H0L:Hid (hx0.length=32):=abC (by rw [hh0,abQ,hl];rfl)
 have H1L:Hid (hx1.length=32):=abC (by rw [yG,abL,hl])
 have lH:=abC hkl
 have HSL:=abC hl
 have mF:=abC hcl
 have UK:=abC hsh
 have Gm:=abC hs0
 have iY:=abC hs1
 have vV:=abC hTK
 obtain ⟨zn,hzn,dB,dw⟩:=zN zero_num
 obtain ⟨iC,pK,vQ,rT⟩:=zN Sl.sJ
 have HI0:=abC (bO.two w (arr .u8 ks) (arr .u8 zn) 25 25)
 clear hzn pK hkb hkl hh hl h32 hlt hsp hsr hcl hsh hspp hks hhs hh0 hs0 hs1 yG hTK
 go_enter Tryz.func80, Tryz.ntmps80
 go_upto_region 1 with (first|((with_reducible refine aS 2 ?_);refine ah rfl 25 rfl _ (dB.out _) ?_))
 (try simp only [World.size_alloc,Act.put,sA,sZ,sS])
 generalize ((w.alloc (.cells (arr .u8 ks) 25)).alloc (.cells (arr .u8 zn) 25))=wb at HI0 ⊢
 go_upto_region 2 with (first|((with_reducible show Calls _ 128 _ _ _);go_at_call 128; refine lC (UK.out _ _ _ (HI0.out.get 0 rfl) (iE vV.out HI0.out.below)) HI0 ?_;intro w1 HI1)|((with_reducible refine aS 4 ?_);refine lA rfl rfl (vQ.out _) HI1 ?_;intro g4 w2 HI2)|((with_reducible refine aT 4 ?_);refine lS rfl rfl HI2 2 rfl rfl rfl (av _ _ HSL.out rT.out) (Sl.sU HSL.out) (ak _ _) ?_;intro w3 HI3))
 (try simp only [World.size_alloc,Act.put,sA,sZ,sS])
 go_upto_region 3 with (first|((with_reducible refine aS 5 ?_);refine lA rfl rfl (dB.out _) HI3 ?_;intro g5 w4 HI4))
 (try simp only [World.size_alloc,Act.put,sA,sZ,sS])
 refine gW (fun (fF:Fill) (uF:World)=>(∀ v,fF 0=some v→v = .slice (some ⟨g5,0,none⟩) 32 32∧True)∧(∀ v,fF 1=some v→v = .slice (some ⟨g4,0,none⟩) 32 64∧True)∧(∀ v,fF 2=some v→v = .int .i64 ((32:Nat):Int)∧True)∧bO w uF ([(w.heap.size,arr .u8 ks, 25),(w.heap.size+1,arr .u8 zn, 25),(g4,arr .u8 hs, 27),(g5,(if (fF 2).isSome=true then arr .u8 hx0 else arr .u8 zn), 25)])) (by kernel_rfl) (by kernel_rfl) ?zs3 ?ss3 ?es3
 case zs3=>exact ⟨fun _ h=>(by cases h),fun _ h=>(by cases h),fun _ h=>(by cases h),HI4.out.drew⟩
 case ss3 =>
  refine bI.cons (fun fF bF uF kF fJ jZ mD dh fU gT=>?_) ?_
  ·obtain ⟨j0,j1,j2,hB⟩:=fJ
   have e5:bF.eval (.tmp 5) = .pointer (some ⟨g5,0,none⟩):=fU.old' 5 (by kernel_rfl) rfl
   exact eG rfl (.slice (some ⟨g5,0,none⟩) 32 32) (by simp only [execOp,e5];first|rfl|(go_simp;done)) (gT _ _ ⟨fun _ h=>⟨sI h,trivial⟩,j1,j2,hB⟩)
  refine bI.cons (fun fF bF uF kF fJ jZ mD dh fU gT=>?_) ?_
  ·obtain ⟨j0,j1,j2,hB⟩:=fJ
   have e4:bF.eval (.tmp 4) = .pointer (some ⟨g4,0,none⟩):=fU.old' 4 (by kernel_rfl) rfl
   exact eG rfl (.slice (some ⟨g4,0,none⟩) 32 64) (by simp only [execOp,e4];first|rfl|(go_simp;done)) (gT _ _ ⟨j0,fun _ h=>⟨sI h,trivial⟩,j2,hB⟩)
  refine bI.cons (fun fF bF uF kF fJ jZ mD dh fU gT=>?_) ?_
  ·obtain ⟨j0,j1,j2,hB⟩:=fJ
   obtain ⟨e8,p8⟩:=fU.at dh 0 8 (by kernel_rfl) rfl j0
   obtain ⟨e9,p9⟩:=fU.at dh 1 9 (by kernel_rfl) rfl j1
   have hB':=hB
   rw [jZ] at hB'
   refine uQ rfl (.tmp 8) (.tmp 9) rfl g5 0 32 32 64 ⟨g4,0,none⟩ zn hx0 25 e8 e9 (hB'.get 3 rfl) (Gm.out _ _ (hB'.get 2 rfl)) (by rw [dw.out];decide) ?_
   rw [copied dw.out H0L.out]
   intro w1 hb1 hk1
   have hB1:bO w w1 ([(w.heap.size,arr .u8 ks, 25),(w.heap.size+1,arr .u8 zn, 25),(g4,arr .u8 hs, 27),(g5,(if ((some (.int .i64 ((32:Nat):Int)):Option Value)).isSome=true then arr .u8 hx0 else arr .u8 zn), 25)]):=hB'.put 3 rfl hk1 hb1
   exact gT _ _ ⟨j0,j1,fun _ h=>⟨sI h,trivial⟩,hB1⟩
  exact bI.nil
 case es3 =>
 intro fF us3 hall fJ
 obtain ⟨j0,j1,j2,hB⟩:=fJ
 obtain ⟨v0,h0⟩:=sE (hall 0 (by decide))
 obtain ⟨rfl,p0⟩:=j0 _ h0
 obtain ⟨v1,h1⟩:=sE (hall 1 (by decide))
 obtain ⟨rfl,p1⟩:=j1 _ h1
 obtain ⟨v2,h2⟩:=sE (hall 2 (by decide))
 obtain ⟨rfl,p2⟩:=j2 _ h2
 rw [h2] at hB
 have HBs3:Hid (bO w us3 [(w.heap.size,arr .u8 ks, 25),(w.heap.size+1,arr .u8 zn, 25),(g4,arr .u8 hs, 27),(g5,arr .u8 hx0, 25)]):=abC hB
 simp only [laid,abI,abJ,h0,h1,h2,Act.put,sA,sZ,sS]
 clear j0 j1 j2 hB h0 h1 h2 hall fF HI4
 clear p0 p1 p2
 (try simp only [Exit.then])
 go_upto_region 4 with fail
 (try simp only [World.size_alloc,Act.put,sA,sZ,sS])
 refine wp_region_held_drew (S:=fun _=>True) (by kernel_rfl) trivial (fun hHeld=>?_)
 have eF:=abC (HBs3.out.drew)
 generalize us3.drew=wd at eF ⊢
 refine wpAnyH_take (i:=2) (oi:=(⟨some 13,_,_,_,_,none⟩:Oper)) (v := .slice (some ⟨g4,32,none⟩) 32 32) rfl (by kernel_rfl) (by kernel_rfl) (by kernel_rfl) (fun _ _ _ h=>h) (Or.inl ⟨by rfl,?hy5301⟩) trivial ?Wu
 case hy5301=>(intro w _;(try dsimp only);go_simp;try (with_reducible rfl))
 (try simp only [Act.put,sA,sZ,sS])
 refine pR 0 ⟨some 11,_,_,_,_,none⟩ (fun K hK=>?_)
 refine eZ rfl 25 _ rfl g5 0 (arr .u8 hx0) 25 (0,0) _ (eF.out.get 3 rfl) rfl .u8 hx0 (aj _ _) Tryz.underlying25 rfl (bU H0L.out) ?_
 refine hK.out _ _ trivial (fun _=>?_)
 clear hK K
 (try simp only [Act.put,sA,sZ,sS])
 refine pR 1 ⟨some 12,_,_,_,_,none⟩ (fun K hK=>?_)
 go_simp
 go_at_call 129
 refine (mF.out _).mono ?_
 rintro e w5 ⟨rfl,hb5⟩
 have gy:=abC (eF.out.kept hb5)
 clear hb5
 (try dsimp only)
 refine hK.out _ _ trivial (fun _=>?_)
 clear hK K
 (try simp only [Act.put,sA,sZ,sS])
 refine pR 3 ⟨some 14,_,_,_,_,none⟩ (fun K hK=>?_)
 refine fM rfl (.const (.slice none 0 0)) (.tmp 13) rfl w5.heap.size _ [] rfl (aU.nil _ _) _ 32 32 hx1 rfl (iY.out _ _ (gy.out.get 2 rfl)) (by decide) (abF _) ?_
 rw [abD]
 intro vf w6 hown hgr _ _
 have hb6:Below w5.heap.size w5 w6:=aZ (aU.nil w5 w5.heap.size) hgr (Below.refl _ _) (abF _)
 obtain ⟨-, ho⟩:=hown
 rcases ho with ⟨-, h0'⟩|⟨gf,cap,cur,rfl,hBg,hgf,hn,hm,hsz,ht⟩
 ·exact absurd h0' (by rw [H1L.out];decide)
 rw [H1L.out] at hn ht
 have HBf:=abC (Sl.bO.add gy.out hb6 hgf hBg)
 have HC:=abC hn
 have HT':=abC ht
 rw [H1L.out]
 clear hgr hb6 hBg hgf hn hm hsz ht
 refine hK.out _ _ trivial (fun _=>?_)
 clear hK K
 (try simp only [Act.put,sA,sZ,sS])
 refine pR 4 ⟨none,_,_,_,_,none⟩ (fun K hK=>?_)
 refine aI rfl 25 (.tmp 2) (.tmp 12) rfl (w.heap.size+1) _ _ 25 (HBf.out.get 1 rfl) rfl rfl (av _ _ Bz.out dw.out) (bG Bz.out) (ak _ _) ?_
 intro w7 jh qP Cy
 have fC:=abC (HBf.out.put 1 rfl qP jh)
 clear jh qP Cy
 refine hK.out _ _ trivial (fun _=>?_)
 clear hK K
 (try simp only [Act.put,sA,sZ,sS])
 refine wpAnyH_take (i:=5) (oi:=(⟨some 3,_,_,_,_,none⟩:Oper)) (v := .slice (some ⟨gf,0,none⟩) 32 cap) rfl (by kernel_rfl) (by kernel_rfl) (by kernel_rfl) (fun _ _ _ h=>h) (Or.inl ⟨by rfl,?hy5302⟩) trivial ?rest5302
 case hy5302=>(intro w _;(try dsimp only);first|rfl|kernel_rfl)
 (try simp only [Act.put,sA,sZ,sS])
 refine wpAnyH_done (by kernel_rfl) ?_ _
 (try simp only [Exit.then])
 go_wp2_with fail
 refine bodyPost_ret (aN rfl _ _ (w.heap.size+1) 25 _ (0,0) _ _ rfl (fC.out.get 1 rfl) Tryz.underlying25 rfl (bG Bz.out) rfl) rfl ?_
 exact ⟨gf,cap,cur,rfl,⟨fC.out.get 4 rfl,fC.out.low 4 rfl,HC.out,by rw [HT'.out]⟩,fC.out.below⟩
theorem wS (seed:Nat) (w:World) (Tv:vK w) (hTX:Uz w) (hTY:Uy w) (hTK:Hb.eP w) :
  Calls Tryz.prog 33 #[.agg (arr .u8 (n32 seed))] w fun e w'=>e = .returned (.agg (arr .u8 (n32 (xQ seed))))∧Below w.heap.size w w':=by
 have hpa:=fun (u:World) (h:Hb.eP u)=>zH seed u h
 have tV:=fun (ps:List Int) (P:Pt) (u:World) (h1:mE ps P) (h2:vK u)=>I7 ps P (jU seed) u h1 h2
 have hw1:=fun (ps:List Int) (u:World) (h:mE ps (kC base (jU seed) 256))=>wM ps _ u h
 rw [show lF (kC base (jU seed) 256)=xQ seed from rfl] at hw1
 obtain ⟨l1,hl1⟩:∃ x,x=n32 (xQ seed):=⟨_,rfl⟩
 rw [show aW (bD 256 32 (xQ seed))=n32 (xQ seed) from rfl,← hl1] at hw1
 rw [← hl1]
 have oH:Hid (l1.length=32):=abC (by rw [hl1];exact cK _)
 rw [show aW (bD 256 32 (jU seed))=n32 (jU seed) from rfl] at tV
 obtain ⟨SP,hSP⟩:∃ x,x=jU seed:=⟨_,rfl⟩
 rw [← hSP] at hpa tV hw1
 obtain ⟨sp,hsp⟩:∃ x,x=n32 SP:=⟨_,rfl⟩
 rw [← hsp] at hpa tV
 have Bz:Hid (sp.length=32):=abC (by rw [hsp];exact cK _)
 obtain ⟨sr,hsr⟩:∃ x,x=jT seed:=⟨_,rfl⟩
 rw [← hsr] at hpa
 obtain ⟨ks,hks⟩:∃ x,x=n32 seed:=⟨_,rfl⟩
 rw [← hks] at hpa ⊢
 have lH:Hid (ks.length=32):=abC (by rw [hks];exact cK _)
 have HPA:=abC hpa
 have JY:=abC tV
 have HW1:=abC hw1
 have HTD:=abC Tv
 have HTX:=abC hTX
 have HTY:=abC hTY
 have vV:=abC hTK
 obtain ⟨zn,hzn,dB,dw⟩:=zN zero_num
 have HI0:=abC (bO.two w (arr .u8 ks) (arr .u8 zn) 25 25)
 clear hzn hpa tV hw1 hl1 hSP hsp hsr hks Tv hTX hTY hTK
 go_enter Tryz.func33, Tryz.ntmps33
 go_upto_region 1 with (first|((with_reducible refine aS 2 ?_);refine ah rfl 25 rfl _ (dB.out _) ?_))
 (try simp only [World.size_alloc,Act.put,sA,sZ,sS])
 generalize ((w.alloc (.cells (arr .u8 ks) 25)).alloc (.cells (arr .u8 zn) 25))=wb at HI0 ⊢
 go_upto_region 2 with (first|((with_reducible refine aS 6 ?_);refine lL rfl rfl (HI0.out.get 0 rfl) rfl (aj _ _) Tryz.underlying25 rfl (bU lH.out) ?_)|((with_reducible show Calls _ 80 _ _ _);go_at_call 80; refine (HPA.out _ (iE vV.out HI0.out.below)).mono ?_;rintro e w1 ⟨gp,cp,DX,rfl,⟨h2,h3,h4,h5⟩,hb1⟩;have HI1:=abC (Sl.bO.add HI0.out hb1 h2 h3);have HCP:=abC h4;have HCU:=abC h5;clear hb1 h2 h3 h4 h5)|((with_reducible refine aS 3 ?_);refine lA rfl rfl (dB.out _) HI1 ?_;intro g3 w2 HI2)|((with_reducible refine aT 3 ?_);refine lS rfl rfl HI2 3 rfl rfl rfl (av _ _ Bz.out dw.out) (bG Bz.out) (ak _ _) ?_;intro w3 HI3))
 (try simp only [World.size_alloc,Act.put,sA,sZ,sS])
 have d9:=abC ((Kept.refl (fun x=>x=w.heap.size+1) w3).drew)
 have eF:=abC (HI3.out.drew)
 refine wp_region_held_drew (S:=(fun w'=>Kept (fun x=>x=w.heap.size+1) w3 w')) (by kernel_rfl) (d9.out) (fun hHeld=>?_)
 generalize w3.drew=wd at d9 eF hHeld ⊢
 refine' wpAnyH_take (i:=1) (oi:=(⟨some 11,_,_,_,_,none⟩:Oper)) (v:=_) rfl (by kernel_rfl) (by kernel_rfl) (by kernel_rfl) (fun _ _ _ h=>h) (yieldsIf_load_mid (by rfl) _ _ rfl _ _ rfl (sp.map (Value.int .u8)) _ ?hS5301 Tryz.underlying25 rfl (by rw [abM];exact bU Bz.out)) (by assumption) ?Wu
 case hS5301=>(intro w hSw;(try dsimp only at hSw);exact aO (hSw.blk (HI3.out.get 3 rfl) (HI3.out.ne 3 1 rfl rfl (by decide))) 0 _ (by rw [abM];exact aj _ _))
 (try simp only [Act.put,sA,sZ,sS])
 refine pR 0 ⟨some 10,_,_,_,_,none⟩ (fun K hK=>?_)
 go_simp
 go_at_call 83
 refine (Bq _ (bC HTX.out eF.out.below) (bC HTY.out eF.out.below)).mono ?_
 rintro e w5302 ⟨z5302,rfl,Zb,Mv⟩
 have HZ5302:=abC Zb
 have HL5302:=abC Zb.len
 clear Zb
 have O1:=abC (eF.out.kept Mv)
 have OA:=abC (d9.out.trans (Kept.of_below Mv))
 clear Mv
 (try dsimp only)
 clear eF
 clear d9
 clear hHeld
 refine hK.out _ _ (OA.out) (fun hHeld=>?_)
 clear hK K
 (try simp only [Act.put,sA,sZ,sS])
 refine pR 2 ⟨some 12,_,_,_,_,none⟩ (fun K hK=>?_)
 go_simp
 go_at_call 82
 refine (JY.out _ _ _ HZ5302.out (bC HTD.out O1.out.below)).mono ?_
 rintro e w5303 ⟨z5303,rfl,Za,Mt⟩
 have HZ5303:=abC Za
 have HL5303:=abC Za.len
 clear Za
 have HB5303:=abC (O1.out.kept Mt)
 have Oz:=abC (OA.out.trans (Kept.of_below Mt))
 clear Mt
 (try dsimp only)
 clear O1
 clear OA
 clear hHeld
 refine hK.out _ _ (Oz.out) (fun hHeld=>?_)
 clear hK K
 (try simp only [Act.put,sA,sZ,sS])
 refine pR 3 ⟨some 13,_,_,_,_,none⟩ (fun K hK=>?_)
 go_simp
 go_at_call 81
 refine (HW1.out _ _ HZ5303.out).mono ?_
 rintro e w5304 ⟨rfl,Mr⟩
 have O0:=abC (HB5303.out.kept Mr)
 have Oy:=abC (Oz.out.trans (Kept.of_below Mr))
 clear Mr
 (try dsimp only)
 clear HB5303
 clear Oz
 clear hHeld
 refine hK.out _ _ (Oy.out) (fun hHeld=>?_)
 clear hK K
 (try simp only [Act.put,sA,sZ,sS])
 refine pR 4 ⟨none,_,_,_,_,none⟩ (fun K hK=>?_)
 refine aI rfl 25 (.tmp 2) (.tmp 13) rfl (w.heap.size+1) _ _ _ (O0.out.get 1 rfl) rfl rfl (av _ _ oH.out dw.out) (bG oH.out) (ak _ _) ?_
 intro w5305 YC LP hz5305
 have HB5305:=abC (O0.out.put 1 rfl LP YC)
 have HK5305:=abC (Oy.out.trans LP)
 clear YC LP hz5305
 clear O0
 clear Oy
 clear hHeld
 refine hK.out _ _ (HK5305.out) (fun hHeld=>?_)
 clear hK K
 (try simp only [Act.put])
 refine wpAnyH_done (by kernel_rfl) ?_ _
 go_wp2_with fail
 (try simp only [Exit.then])
 refine bodyPost_ret (results_cell_row rfl _ _ (w.heap.size+1) 25 _ (0,0) _ rfl (HB5305.out.get 1 rfl) Tryz.underlying25 rfl (bG oH.out)) rfl ?_
 exact ⟨rfl,HB5305.out.below⟩
end Go.Proofs.YthdgbgleklkaiaaGreatDoor.Rd
namespace Go.Proofs.YthdgbgleklkaiaaGreatDoor.Ce
open Go.RowKit Lm Fp Cu Sl Sc Rd
structure TabP (w:World):Prop where
 d:vK w
 x:Uz w
 y:Uy w
 k:Hb.eP w
theorem TabP.below {u u':World} (h:TabP u) (b:Below u.heap.size u u'):TabP u':=⟨bC h.d b,bC h.x b,bC h.y b,iE h.k b⟩
end Go.Proofs.YthdgbgleklkaiaaGreatDoor.Ce
namespace Go.Proofs.YthdgbgleklkaiaaGreatDoor.Ce
open Go.RowKit Lm Fp Cu Sl Sc
structure TabV (w:World):Prop extends TabP w where
 i:Rd.UA w
 q:Rd.ny w
theorem zl {a b:World} (h:Rd.ny a) (k:Below a.heap.size a b):Rd.ny b:=fun t ht=>(Kept.of_below k (T:=fun _=>False)).lV (h t ht) id
theorem TabV.below {u u':World} (h:TabV u) (b:Below u.heap.size u u'):TabV u':=⟨h.toTabP.below b,Rd.bC h.i b,zl h.q b⟩
end Go.Proofs.YthdgbgleklkaiaaGreatDoor.Ce
namespace Go.Proofs.YthdgbgleklkaiaaGreatDoor.Rd
open Go.RowKit Lm Fp Cu Sc
theorem Di {bs:List Int} (seed:Nat) (sb:Option Addr) (nb cb:Nat) (w:World) (hB:Src w sb nb bs) (hcb:nb≤cb) (bB:bytes bs) (hN:nb≤1000000000)
  (Tv:vK w) (hTX:Uz w) (hTY:Uy w) (hTQ:ny w) (hTK:Hb.eP w) :
  Calls Tryz.prog 67 #[.agg (arr .u8 (n32 seed)), .slice sb nb cb] w fun e w'=>e = .returned (.agg (arr .u8 (kH seed bs)))∧Below w.heap.size w w':=by
 have hsrl:(jT seed).length=32:=by unfold jT;rw [abL,Hb.dM]
 have hsrb:bytes (jT seed):=Nu (pQ (n32 seed)) 32
 have hpa:=fun (u:World) (h:Hb.eP u)=>zH seed u h
 have hpu:=fun (u:World) (h1:vK u) (h2:Uz u) (h3:Uy u) (h4:Hb.eP u)=>wS seed u h1 h2 h3 h4
 have hw2:∀ (g:Nat) (u:World),om u (some ⟨g,0,none⟩) 2 [jT seed,bs]→Hb.eP u→ny u→Calls Tryz.prog 111 #[.slice (some ⟨g,0,none⟩) 2 2] u fun e w'=>e = .returned (.agg (arr .u8 (n32 (wide (jT seed ++ bs)))))∧Below u.heap.size u w':=by
  intro g u h1 h2 h3
  have:=Ij (some ⟨g,0,none⟩) 2 2 [jT seed,bs] u h1 (by intro l h;simp only [List.mem_cons,abV,or_false] at h;rcases h with rfl|rfl;exact hsrb;exact bB) (by rw [show ([jT seed,bs]:List (List Int)).flatten=jT seed ++ bs by simp,abK,hsrl,hB.len];omega) (by decide) h2 h3
  rwa [show ([jT seed,bs]:List (List Int)).flatten=jT seed ++ bs by simp] at this
 have hw3:∀ (r k g:Nat) (u:World),om u (some ⟨g,0,none⟩) 3 [n32 r,n32 k,bs]→Hb.eP u→ny u→Calls Tryz.prog 111 #[.slice (some ⟨g,0,none⟩) 3 3] u fun e w'=>e = .returned (.agg (arr .u8 (n32 (wide (n32 r ++ (n32 k ++ bs))))))∧Below u.heap.size u w':=by
  intro r k g u h1 h2 h3
  have:=Ij (some ⟨g,0,none⟩) 3 3 [n32 r,n32 k,bs] u h1 (by intro l h;simp only [List.mem_cons,abV,or_false] at h;rcases h with rfl|rfl|rfl;exact eY _;exact eY _;exact bB) (by rw [show ([n32 r,n32 k,bs]:List (List Int)).flatten=n32 r ++ (n32 k ++ bs) by simp,abK,abK,cK,cK,hB.len];omega) (by decide) h2 h3
  rwa [show ([n32 r,n32 k,bs]:List (List Int)).flatten=n32 r ++ (n32 k ++ bs) by simp] at this
 have hes:kH seed bs=n32 (vw seed bs) ++ n32 (Nc seed bs):=rfl
 obtain ⟨RR,hRR⟩:∃ r,r=wide (jT seed ++ bs):=⟨_,rfl⟩
 have hRL:RR < 256 ^ 32:=by rw [hRR];exact abR (abN _ P9) KQ
 have hR:vw seed bs=lF (kC base RR 256):=by rw [hRR];rfl
 have hS:Nc seed bs=(RR+wide (n32 (vw seed bs) ++ (n32 (xQ seed) ++ bs)) * jU seed % q) % q:=by rw [hRR];rfl
 have tV:=fun (ps:List Int) (P:Pt) (u:World) (h1:mE ps P) (h2:vK u)=>I7 ps P RR u h1 h2
 have hw1:=fun (ps:List Int) (u:World) (h:mE ps (kC base RR 256))=>wM ps _ u h
 rw [← hR] at hw1
 have hspl:jU seed < 256 ^ 32:=by
  have:=abN (fD ((Hb.hash (n32 seed)).take 32) / 8 * 8) (show 2 ^ 254 > 0 by decide)
  show _ / 8 * 8 % 2 ^ 254+2 ^ 254 < 256 ^ 32
  rw [show (256:Nat) ^ 32=2 ^ 256 by decide]
  omega
 obtain ⟨R,hRe⟩:∃ r,r=vw seed bs:=⟨_,rfl⟩
 obtain ⟨PK,hPK⟩:∃ r,r=xQ seed:=⟨_,rfl⟩
 obtain ⟨SP,hSP⟩:∃ x,x=jU seed:=⟨_,rfl⟩
 obtain ⟨sr,hsr⟩:∃ x,x=jT seed:=⟨_,rfl⟩
 rw [← hRe,← hPK,← hSP] at hS
 rw [hS,← hRe] at hes
 rw [← hRe] at hw1
 rw [← hRR,← hsr] at hw2
 rw [← hsr] at hsrl
 rw [← hsr,← hSP] at hpa
 rw [← hSP] at hspl
 rw [← hPK] at hpu
 have hw3':=hw3 R PK
 obtain ⟨KK,hKK⟩:∃ k,k=wide (n32 R ++ (n32 PK ++ bs)):=⟨_,rfl⟩
 rw [← hKK] at hw3' hes
 have hKL:KK < 256 ^ 32:=by rw [hKK];exact abR (abN _ P9) KQ
 have hmul:=fun (u:World) (h:ny u)=>Xb KK SP u hKL hspl h
 have hadd:=fun (u:World) (h:ny u)=>Z9 RR (KK * SP % q) u hRL (abR (abN _ P9) KQ) h
 obtain ⟨pl,hpl⟩:∃ x,x=n32 R:=⟨_,rfl⟩
 obtain ⟨pk,hpk⟩:∃ x,x=n32 PK:=⟨_,rfl⟩
 obtain ⟨sp,hsp⟩:∃ x,x=n32 SP:=⟨_,rfl⟩
 obtain ⟨rl,hrl⟩:∃ x,x=n32 RR:=⟨_,rfl⟩
 obtain ⟨kl,hkl⟩:∃ x,x=n32 KK:=⟨_,rfl⟩
 obtain ⟨ml,hml⟩:∃ x,x=n32 (KK * SP % q):=⟨_,rfl⟩
 obtain ⟨sl,hsl⟩:∃ x,x=n32 ((RR+KK * SP % q) % q):=⟨_,rfl⟩
 obtain ⟨ks,hks⟩:∃ x,x=n32 seed:=⟨_,rfl⟩
 rw [show aW (bD 256 32 R)=n32 R from rfl,← hpl] at hw1
 rw [show aW (bD 256 32 RR)=n32 RR from rfl,← hrl] at tV
 rw [show aW (bD 256 32 KK)=n32 KK from rfl,show aW (bD 256 32 SP)=n32 SP from rfl,show aW (bD 256 32 (KK * SP % q))=n32 (KK * SP % q) from rfl,← hkl,← hsp,← hml] at hmul
 rw [show aW (bD 256 32 RR)=n32 RR from rfl,show aW (bD 256 32 (KK * SP % q))=n32 (KK * SP % q) from rfl,show aW (bD 256 32 ((RR+KK * SP % q) % q))=n32 ((RR+KK * SP % q) % q) from rfl,← hrl,← hml,← hsl] at hadd
 rw [← hsl,← hpl] at hes
 rw [← hrl] at hw2
 rw [← hpl,← hpk,← hkl] at hw3'
 rw [← hsp,← hks] at hpa
 rw [← hpk,← hks] at hpu
 rw [← hks]
 have vW:Hid (pl.length=32):=abC (by rw [hpl];exact cK _)
 have HPKL:Hid (pk.length=32):=abC (by rw [hpk];exact cK _)
 have Bz:Hid (sp.length=32):=abC (by rw [hsp];exact cK _)
 have HRLL:Hid (rl.length=32):=abC (by rw [hrl];exact cK _)
 have HKLL:Hid (kl.length=32):=abC (by rw [hkl];exact cK _)
 have HMLL:Hid (ml.length=32):=abC (by rw [hml];exact cK _)
 have Al:Hid (sl.length=32):=abC (by rw [hsl];exact cK _)
 have HKSL:Hid (ks.length=32):=abC (by rw [hks];exact cK _)
 have hes':=hes
 obtain ⟨res,hres⟩:∃ r,r=kH seed bs:=⟨_,rfl⟩
 rw [← hres] at hes' ⊢
 have Q6:Hid (res.length=64):=abC (by rw [hes',abK,vW.out,Al.out])
 obtain ⟨zn,hzn,dB,dw⟩:=zN zero_num
 obtain ⟨iC,pK,vQ,rT⟩:=zN Sl.sJ
 obtain ⟨m1,hm1⟩:∃ x,x=pl ++ iC.drop 32:=⟨_,rfl⟩
 have Em:Hid (iC.take 0 ++ pl ++ iC.drop (0+32)=m1):=abC (by rw [hm1];rfl)
 have HM1L:Hid (m1.length=64):=abC (by rw [hm1,abK,vW.out,abL,rT.out])
 have Ia:Hid (m1.take 32 ++ sl ++ m1.drop (32+32)=res):=abC (by rw [hes',List.drop_of_length_le (by rw [HM1L.out];decide),abE,hm1,List.take_append_of_le_length (by rw [vW.out];decide),abT (by rw [vW.out];decide)])
 have HSR1:Hid (∀ (u:World) (g:Nat),u.heap[g]? = some (.cells (arr .u8 pl) 25 (0,0))→Src u (some ⟨g,0,none⟩) 32 pl):=abC (fun u g h=>Sl.bQ h 32 vW.out)
 have HSR2:Hid (∀ (u:World) (g:Nat),u.heap[g]? = some (.cells (arr .u8 sl) 25 (0,0))→Src u (some ⟨g,0,none⟩) 32 sl):=abC (fun u g h=>Sl.bQ h 32 Al.out)
 have HSRL:=abC hsrl
 have HPA:=abC hpa
 have HPU:=abC hpu
 have HWD2:=abC hw2
 have HWD3:=abC hw3'
 have JY:=abC tV
 have HW1:=abC hw1
 have HMUL:=abC hmul
 have HADD:=abC hadd
 have yM:=abC hB
 have HCB:=abC hcb
 have HTD:=abC Tv
 have HTX:=abC hTX
 have HTY:=abC hTY
 have HTQ:=abC hTQ
 have vV:=abC hTK
 have HI0:=abC (bO.two w (arr .u8 ks) (arr .u8 iC) 25 27)
 clear hzn pK hm1 hes' hres hes hks hsl hml hkl hrl hsp hpk hpl hadd hmul hKL hKK hw3' hw3 hsr hSP hPK hRe hspl hw1 tV hS hR hRL hRR hw2 hpu hpa hsrb hsrl hB hcb bB hN Tv hTX hTY hTQ hTK
 go_enter Tryz.func67, Tryz.ntmps67
 go_upto_region 1 with (first|((with_reducible refine aS 4 ?_);refine ah rfl 27 rfl _ (vQ.out _) ?_))
 (try simp only [World.size_alloc,Act.put,sA,sZ,sS])
 generalize ((w.alloc (.cells (arr .u8 ks) 25)).alloc (.cells (arr .u8 iC) 27))=wb at HI0 ⊢
 go_upto_region 2 with (first|((with_reducible refine aS 14 ?_);refine lL rfl rfl (HI0.out.get 0 rfl) rfl (aj _ _) Tryz.underlying25 rfl (bU HKSL.out) ?_)|((with_reducible show Calls _ 80 _ _ _);go_at_call 80; refine (HPA.out _ (iE vV.out HI0.out.below)).mono ?_;rintro e w1 ⟨gp,cp,DX,rfl,⟨h2,h3,h4,h5⟩,hb1⟩;have HI1:=abC (Sl.bO.add HI0.out hb1 h2 h3);have HCP:=abC h4;have HCU:=abC h5;clear hb1 h2 h3 h4 h5)|((with_reducible refine aS 5 ?_);refine lA rfl rfl (dB.out _) HI1 ?_;intro g5 w2 HI2)|((with_reducible refine aT 5 ?_);refine lS rfl rfl HI2 3 rfl rfl rfl (av _ _ Bz.out dw.out) (bG Bz.out) (ak _ _) ?_;intro w3 HI3))
 (try simp only [World.size_alloc,Act.put,sA,sZ,sS])
 have HSL2:Hid (∀ u:World,Src u (some ⟨gp,0,none⟩) 32 sr→Src u sb nb bs→om (u.alloc (.cells #[.slice (some ⟨gp,0,none⟩) 32 cp, .slice sb nb cb] 22)) (some ⟨u.heap.size,0,none⟩) 2 [sr,bs]):=abC (fun u h1 h2=>Sl.src_two (aH u _) (h1.below ((Below.refl _ u).alloc (abF _) _)) (h2.below ((Below.refl _ u).alloc (abF _) _)) HCP.out HCB.out)
 have HSRC:Hid (Src w3 (some ⟨gp,0,none⟩) 32 sr):=abC (nK (HI3.out.get 2 rfl) (by rw [HSRL.out];exact HCU.out) HSRL.out)
 go_upto_region 3 with (first|((with_reducible show Calls _ 111 _ _ _);go_at_call 111; refine (HWD2.out _ _ (HSL2.out _ HSRC.out (yM.out.below HI3.out.below)) (iE vV.out (HI3.out.below.alloc HI3.out.below.size _)) (HTQ.out.below (HI3.out.below.alloc HI3.out.below.size _))).mono ?_;rintro e w4 ⟨rfl,hb4⟩;have HI4:=abC (HI3.out.kept (Sl.Uu hb4));clear hb4)|((with_reducible refine aS 7 ?_);refine lA rfl rfl (dB.out _) HI4 ?_;intro g7 w5 HI5)|((with_reducible refine aT 7 ?_);refine lS rfl rfl HI5 4 rfl rfl rfl (av _ _ HRLL.out dw.out) (bG HRLL.out) (ak _ _) ?_;intro w6 HI6))
 (try simp only [World.size_alloc,Act.put,sA,sZ,sS])
 go_cut [8] (fun u8 wx=>∃ gg,u8 = .pointer (some ⟨gg,0,none⟩)∧bO w wx [(w.heap.size,arr .u8 ks, 25),(w.heap.size+1,arr .u8 iC, 27),(gp,DX, 5),(g5,arr .u8 sp, 25),(g7,arr .u8 rl, 25),(gg,arr .u8 pl, 25)])
 case first =>
  have d9:=abC ((Kept.refl (fun _=>False) w6).drew)
  have eF:=abC (HI6.out.drew)
  refine wp_region_held_drew (S:=(fun w'=>Kept (fun _=>False) w6 w')) (by kernel_rfl) (d9.out) (fun hHeld=>?_)
  generalize w6.drew=wd at d9 eF hHeld ⊢
  refine' wpAnyH_take (i:=1) (oi:=(⟨some 23,_,_,_,_,none⟩:Oper)) (v:=_) rfl (by kernel_rfl) (by kernel_rfl) (by kernel_rfl) (fun _ _ _ h=>h) (yieldsIf_load_mid (by rfl) _ _ rfl _ _ rfl (rl.map (Value.int .u8)) _ ?hS5501 Tryz.underlying25 rfl (by rw [abM];exact bU HRLL.out)) (by assumption) ?rest5501
  case hS5501=>(intro w hSw;(try dsimp only at hSw);exact aO (hSw.blk (HI6.out.get 4 rfl) (fun e=>e.elim)) 0 _ (by rw [abM];exact aj _ _))
  (try simp only [Act.put,sA,sZ,sS])
  refine wpAnyH_ready (rs:=[0,4]) (by kernel_rfl) (by simp) ?_
  refine AllReadyH.cons (o:=(⟨some 22,_,_,_,_,none⟩:Oper)) rfl (fun K hK=>?_) ?_
  ·go_simp
   go_at_call 83
   refine (Bq _ (bC HTX.out eF.out.below) (bC HTY.out eF.out.below)).mono ?_
   rintro e Vl ⟨z5502,rfl,Y9,Mq⟩
   have aaF:=abC Y9
   have HL5502:=abC Y9.len
   clear Y9
   have BS:=abC (eF.out.kept Mq)
   have wH:=abC (d9.out.trans (Kept.of_below Mq))
   clear Mq
   (try dsimp only)
   clear eF
   clear d9
   clear hHeld
   refine hK.out _ _ (wH.out) (fun hHeld=>?_)
   clear hK K
   (try simp only [Act.put,sA,sZ,sS])
   refine wpAnyH_ready (rs:=[2,4]) (by kernel_rfl) (by simp) ?_
   refine AllReadyH.cons (o:=(⟨some 24,_,_,_,_,none⟩:Oper)) rfl (fun K hK=>?_) ?_
   ·go_simp
    go_at_call 82
    refine (JY.out _ _ _ aaF.out (bC HTD.out BS.out.below)).mono ?_
    rintro e Vk ⟨z5503,rfl,Y8,Ml⟩
    have aaE:=abC Y8
    have HL5503:=abC Y8.len
    clear Y8
    have GZ:=abC (BS.out.kept Ml)
    have wG:=abC (wH.out.trans (Kept.of_below Ml))
    clear Ml
    (try dsimp only)
    clear BS
    clear wH
    clear hHeld
    refine hK.out _ _ (wG.out) (fun hHeld=>?_)
    clear hK K
    (try simp only [Act.put,sA,sZ,sS])
    refine wpAnyH_ready (rs:=[3,4]) (by kernel_rfl) (by simp) ?_
    refine AllReadyH.cons (o:=(⟨some 25,_,_,_,_,none⟩:Oper)) rfl (fun K hK=>?_) ?_
    ·go_simp
     go_at_call 81
     refine (HW1.out _ _ aaE.out).mono ?_
     rintro e Vj ⟨rfl,Mk⟩
     have HB5504:=abC (GZ.out.kept Mk)
     have GD:=abC (wG.out.trans (Kept.of_below Mk))
     clear Mk
     (try dsimp only)
     clear GZ
     clear wG
     clear hHeld
     refine hK.out _ _ (GD.out) (fun hHeld=>?_)
     clear hK K
     (try simp only [Act.put,sA,sZ,sS])
     refine pR 4 ⟨some 8,_,_,_,_,none⟩ (fun K hK=>?_)
     refine bA rfl 25 rfl _ (dB.out _) ?_
     have BR:=abC (HB5504.out.alloc (arr .u8 zn) 25)
     have GA:=abC (GD.out.alloc (.cells (arr .u8 zn) 25))
     have Fj:=abC (show w6.heap.size≤(Vj).heap.size from GD.out.size)
     generalize (Vj).heap.size=g5505 at BR Fj ⊢
     generalize (Vj).alloc (.cells (arr .u8 zn) 25)=w5505 at BR GA ⊢
     clear HB5504
     clear GD
     clear hHeld
     refine hK.out _ _ (GA.out) (fun hHeld=>?_)
     clear hK K
     (try simp only [Act.put,sA,sZ,sS])
     refine pR 5 ⟨none,_,_,_,_,none⟩ (fun K hK=>?_)
     refine aI rfl 25 (.tmp 8) (.tmp 25) rfl (g5505) _ _ _ (BR.out.get 5 rfl) rfl rfl (av _ _ vW.out dw.out) (bG vW.out) (ak _ _) ?_
     intro w5506 YA LM hz5506
     have HB5506:=abC (BR.out.put 5 rfl LM YA)
     have HK5506:=abC (GA.out.bS LM (fun i hi e=>absurd hi (by rw [e];exact Nat.not_lt.2 Fj.out)))
     clear YA LM hz5506
     clear BR
     clear GA
     clear hHeld
     refine hK.out _ _ (HK5506.out) (fun hHeld=>?_)
     clear hK K
     (try simp only [Act.put])
     refine wpAnyH_done (by kernel_rfl) ?_ _
     go_wp2_with fail
     go_meet
     exact ⟨_,rfl,HB5506.out⟩
    refine AllReadyH.cons (o:=(⟨some 8,_,_,_,_,none⟩:Oper)) rfl (fun K hK=>?_) ?_
    ·refine bA rfl 25 rfl _ (dB.out _) ?_
     have GY:=abC (GZ.out.alloc (arr .u8 zn) 25)
     have Gz:=abC (wG.out.alloc (.cells (arr .u8 zn) 25))
     have Fa:=abC (show w6.heap.size≤(Vk).heap.size from wG.out.size)
     generalize (Vk).heap.size=g5507 at GY Fa ⊢
     generalize (Vk).alloc (.cells (arr .u8 zn) 25)=w5507 at GY Gz ⊢
     clear GZ
     clear wG
     clear hHeld
     refine hK.out _ _ (Gz.out) (fun hHeld=>?_)
     clear hK K
     (try simp only [Act.put,sA,sZ,sS])
     refine pR 3 ⟨some 25,_,_,_,_,none⟩ (fun K hK=>?_)
     go_simp
     go_at_call 81
     refine (HW1.out _ _ aaE.out).mono ?_
     rintro e w5508 ⟨rfl,Mj⟩
     have OZ:=abC (GY.out.kept Mj)
     have Ox:=abC (Gz.out.trans (Kept.of_below Mj))
     clear Mj
     (try dsimp only)
     clear GY
     clear Gz
     clear hHeld
     refine hK.out _ _ (Ox.out) (fun hHeld=>?_)
     clear hK K
     (try simp only [Act.put,sA,sZ,sS])
     refine pR 5 ⟨none,_,_,_,_,none⟩ (fun K hK=>?_)
     refine aI rfl 25 (.tmp 8) (.tmp 25) rfl (g5507) _ _ _ (OZ.out.get 5 rfl) rfl rfl (av _ _ vW.out dw.out) (bG vW.out) (ak _ _) ?_
     intro w5509 Yz LJ hz5509
     have HB5509:=abC (OZ.out.put 5 rfl LJ Yz)
     have HK5509:=abC (Ox.out.bS LJ (fun i hi e=>absurd hi (by rw [e];exact Nat.not_lt.2 Fa.out)))
     clear Yz LJ hz5509
     clear OZ
     clear Ox
     clear hHeld
     refine hK.out _ _ (HK5509.out) (fun hHeld=>?_)
     clear hK K
     (try simp only [Act.put])
     refine wpAnyH_done (by kernel_rfl) ?_ _
     go_wp2_with fail
     go_meet
     exact ⟨_,rfl,HB5509.out⟩
    exact AllReadyH.nil
   refine AllReadyH.cons (o:=(⟨some 8,_,_,_,_,none⟩:Oper)) rfl (fun K hK=>?_) ?_
   ·refine bA rfl 25 rfl _ (dB.out _) ?_
    have BQ:=abC (BS.out.alloc (arr .u8 zn) 25)
    have Gy:=abC (wH.out.alloc (.cells (arr .u8 zn) 25))
    have E5:=abC (show w6.heap.size≤(Vl).heap.size from wH.out.size)
    generalize (Vl).heap.size=g5510 at BQ E5 ⊢
    generalize (Vl).alloc (.cells (arr .u8 zn) 25)=w5510 at BQ Gy ⊢
    clear BS
    clear wH
    clear hHeld
    refine hK.out _ _ (Gy.out) (fun hHeld=>?_)
    clear hK K
    (try simp only [Act.put,sA,sZ,sS])
    refine pR 2 ⟨some 24,_,_,_,_,none⟩ (fun K hK=>?_)
    go_simp
    go_at_call 82
    refine (JY.out _ _ _ aaF.out (bC HTD.out BQ.out.below)).mono ?_
    rintro e w5511 ⟨z5511,rfl,Y7,Mi⟩
    have HZ5511:=abC Y7
    have HL5511:=abC Y7.len
    clear Y7
    have HB5511:=abC (BQ.out.kept Mi)
    have Ow:=abC (Gy.out.trans (Kept.of_below Mi))
    clear Mi
    (try dsimp only)
    clear BQ
    clear Gy
    clear hHeld
    refine hK.out _ _ (Ow.out) (fun hHeld=>?_)
    clear hK K
    (try simp only [Act.put,sA,sZ,sS])
    refine pR 3 ⟨some 25,_,_,_,_,none⟩ (fun K hK=>?_)
    go_simp
    go_at_call 81
    refine (HW1.out _ _ HZ5511.out).mono ?_
    rintro e w5512 ⟨rfl,Mh⟩
    have OY:=abC (HB5511.out.kept Mh)
    have Ov:=abC (Ow.out.trans (Kept.of_below Mh))
    clear Mh
    (try dsimp only)
    clear HB5511
    clear Ow
    clear hHeld
    refine hK.out _ _ (Ov.out) (fun hHeld=>?_)
    clear hK K
    (try simp only [Act.put,sA,sZ,sS])
    refine pR 5 ⟨none,_,_,_,_,none⟩ (fun K hK=>?_)
    refine aI rfl 25 (.tmp 8) (.tmp 25) rfl (g5510) _ _ _ (OY.out.get 5 rfl) rfl rfl (av _ _ vW.out dw.out) (bG vW.out) (ak _ _) ?_
    intro w5513 Yy LH hz5513
    have HB5513:=abC (OY.out.put 5 rfl LH Yy)
    have HK5513:=abC (Ov.out.bS LH (fun i hi e=>absurd hi (by rw [e];exact Nat.not_lt.2 E5.out)))
    clear Yy LH hz5513
    clear OY
    clear Ov
    clear hHeld
    refine hK.out _ _ (HK5513.out) (fun hHeld=>?_)
    clear hK K
    (try simp only [Act.put])
    refine wpAnyH_done (by kernel_rfl) ?_ _
    go_wp2_with fail
    go_meet
    exact ⟨_,rfl,HB5513.out⟩
   exact AllReadyH.nil
  refine AllReadyH.cons (o:=(⟨some 8,_,_,_,_,none⟩:Oper)) rfl (fun K hK=>?_) ?_
  ·refine bA rfl 25 rfl _ (dB.out _) ?_
   have wL:=abC (eF.out.alloc (arr .u8 zn) 25)
   have Gx:=abC (d9.out.alloc (.cells (arr .u8 zn) 25))
   have EY:=abC (show w6.heap.size≤(wd).heap.size from d9.out.size)
   generalize (wd).heap.size=g5514 at wL EY ⊢
   generalize (wd).alloc (.cells (arr .u8 zn) 25)=w5514 at wL Gx ⊢
   clear eF
   clear d9
   clear hHeld
   refine hK.out _ _ (Gx.out) (fun hHeld=>?_)
   clear hK K
   (try simp only [Act.put,sA,sZ,sS])
   refine pR 0 ⟨some 22,_,_,_,_,none⟩ (fun K hK=>?_)
   go_simp
   go_at_call 83
   refine (Bq _ (bC HTX.out wL.out.below) (bC HTY.out wL.out.below)).mono ?_
   rintro e w5515 ⟨z5515,rfl,Y6,Mg⟩
   have HZ5515:=abC Y6
   have HL5515:=abC Y6.len
   clear Y6
   have OX:=abC (wL.out.kept Mg)
   have Ou:=abC (Gx.out.trans (Kept.of_below Mg))
   clear Mg
   (try dsimp only)
   clear wL
   clear Gx
   clear hHeld
   refine hK.out _ _ (Ou.out) (fun hHeld=>?_)
   clear hK K
   (try simp only [Act.put,sA,sZ,sS])
   refine pR 2 ⟨some 24,_,_,_,_,none⟩ (fun K hK=>?_)
   go_simp
   go_at_call 82
   refine (JY.out _ _ _ HZ5515.out (bC HTD.out OX.out.below)).mono ?_
   rintro e w5516 ⟨z5516,rfl,Y5,Me⟩
   have HZ5516:=abC Y5
   have HL5516:=abC Y5.len
   clear Y5
   have HB5516:=abC (OX.out.kept Me)
   have Ot:=abC (Ou.out.trans (Kept.of_below Me))
   clear Me
   (try dsimp only)
   clear OX
   clear Ou
   clear hHeld
   refine hK.out _ _ (Ot.out) (fun hHeld=>?_)
   clear hK K
   (try simp only [Act.put,sA,sZ,sS])
   refine pR 3 ⟨some 25,_,_,_,_,none⟩ (fun K hK=>?_)
   go_simp
   go_at_call 81
   refine (HW1.out _ _ HZ5516.out).mono ?_
   rintro e w5517 ⟨rfl,Md⟩
   have OW:=abC (HB5516.out.kept Md)
   have Oq:=abC (Ot.out.trans (Kept.of_below Md))
   clear Md
   (try dsimp only)
   clear HB5516
   clear Ot
   clear hHeld
   refine hK.out _ _ (Oq.out) (fun hHeld=>?_)
   clear hK K
   (try simp only [Act.put,sA,sZ,sS])
   refine pR 5 ⟨none,_,_,_,_,none⟩ (fun K hK=>?_)
   refine aI rfl 25 (.tmp 8) (.tmp 25) rfl (g5514) _ _ _ (OW.out.get 5 rfl) rfl rfl (av _ _ vW.out dw.out) (bG vW.out) (ak _ _) ?_
   intro w5518 Yx LG hz5518
   have HB5518:=abC (OW.out.put 5 rfl LG Yx)
   have HK5518:=abC (Oq.out.bS LG (fun i hi e=>absurd hi (by rw [e];exact Nat.not_lt.2 EY.out)))
   clear Yx LG hz5518
   clear OW
   clear Oq
   clear hHeld
   refine hK.out _ _ (HK5518.out) (fun hHeld=>?_)
   clear hK K
   (try simp only [Act.put])
   refine wpAnyH_done (by kernel_rfl) ?_ _
   go_wp2_with fail
   go_meet
   exact ⟨_,rfl,HB5518.out⟩
  exact AllReadyH.nil
 case rest =>
 obtain ⟨wy,rfl⟩:∃ x:World,x=wc:=⟨_,rfl⟩
 obtain ⟨g8,rfl,hb1⟩:=hcut
 have HI8:=abC hb1
 clear hb1
 go_upto_region 5 with (first|((with_reducible refine aS 26 ?_);refine lL rfl rfl (HI8.out.get 0 rfl) rfl (aj _ _) Tryz.underlying25 rfl (bU HKSL.out) ?_)|((with_reducible show Calls _ 33 _ _ _);go_at_call 33; refine lC (HPU.out _ (bC HTD.out HI8.out.below) (bC HTX.out HI8.out.below) (bC HTY.out HI8.out.below) (iE vV.out HI8.out.below)) HI8 ?_;intro w20 HI20)|((with_reducible refine aS 9 ?_);refine lA rfl rfl (dB.out _) HI20 ?_;intro g9 w21 HI21)|((with_reducible refine aT 9 ?_);refine lS rfl rfl HI21 6 rfl rfl rfl (av _ _ HPKL.out dw.out) (bG HPKL.out) (ak _ _) ?_;intro w22 HI22))
 (try simp only [World.size_alloc,Act.put,sA,sZ,sS])
 refine gW (fun (fF:Fill) (uF:World)=>(∀ v,fF 0=some v→v = .slice (some ⟨g8,0,none⟩) 32 32∧True)∧(∀ v,fF 1=some v→v = .slice (some ⟨g9,0,none⟩) 32 32∧True)∧(∀ v,fF 2=some v→v = .slice sb nb cb∧True)∧(∀ v,fF 3=some v→∃ g:Nat,v = .slice (some ⟨g,0,none⟩) 3 3)∧(∀ v,fF 4=some v→v = .agg (arr .u8 kl)∧True)∧(∀ v,fF 5=some v→∃ g:Nat,v = .pointer (some ⟨g,0,none⟩))∧bO w uF ([(w.heap.size,arr .u8 ks, 25),(w.heap.size+1,arr .u8 iC, 27),(gp,DX, 5),(g5,arr .u8 sp, 25),(g7,arr .u8 rl, 25),(g8,arr .u8 pl, 25),(g9,arr .u8 pk, 25)] ++ (ent (fF 3) (#[.slice (some ⟨g8,0,none⟩) 32 32, .slice (some ⟨g9,0,none⟩) 32 32, .slice sb nb cb]) 22 ++ (ent (fF 5) ((if (fF 6).isSome=true then arr .u8 kl else arr .u8 zn)) 25)))) (by kernel_rfl) (by kernel_rfl) ?zt5 ?st5 ?et5
 case zt5=>exact ⟨fun _ h=>(by cases h),fun _ h=>(by cases h),fun _ h=>(by cases h),fun _ h=>(by cases h),fun _ h=>(by cases h),fun _ h=>(by cases h),HI22.out.drew⟩
 case st5 =>
  refine bI.cons (fun fF bF uF kF fJ jZ mD dh fU gT=>?_) ?_
  ·obtain ⟨j0,j1,j2,j3,j4,j5,hB⟩:=fJ
   have e8:bF.eval (.tmp 8) = .pointer (some ⟨g8,0,none⟩):=fU.old' 8 (by kernel_rfl) rfl
   exact eG rfl (.slice (some ⟨g8,0,none⟩) 32 32) (by simp only [execOp,e8];first|rfl|(go_simp;done)) (gT _ _ ⟨fun _ h=>⟨sI h,trivial⟩,j1,j2,j3,j4,j5,hB⟩)
  refine bI.cons (fun fF bF uF kF fJ jZ mD dh fU gT=>?_) ?_
  ·obtain ⟨j0,j1,j2,j3,j4,j5,hB⟩:=fJ
   have e9:bF.eval (.tmp 9) = .pointer (some ⟨g9,0,none⟩):=fU.old' 9 (by kernel_rfl) rfl
   exact eG rfl (.slice (some ⟨g9,0,none⟩) 32 32) (by simp only [execOp,e9];first|rfl|(go_simp;done)) (gT _ _ ⟨j0,fun _ h=>⟨sI h,trivial⟩,j2,j3,j4,j5,hB⟩)
  refine bI.cons (fun fF bF uF kF fJ jZ mD dh fU gT=>?_) ?_
  ·obtain ⟨j0,j1,j2,j3,j4,j5,hB⟩:=fJ
   have e1:bF.eval (.tmp 1) = .slice sb nb cb:=fU.old' 1 (by kernel_rfl) rfl
   exact eG rfl (.slice sb nb cb) (by simp only [execOp,e1] <;> first|rfl|kernel_rfl|(go_simp;done)) (gT _ _ ⟨j0,j1,fun _ h=>⟨sI h,trivial⟩,j3,j4,j5,hB⟩)
  refine bI.cons (fun fF bF uF kF fJ jZ mD dh fU gT=>?_) ?_
  ·obtain ⟨j0,j1,j2,j3,j4,j5,hB⟩:=fJ
   obtain ⟨e28,p28⟩:=fU.at dh 0 28 (by kernel_rfl) rfl j0
   obtain ⟨e29,p29⟩:=fU.at dh 1 29 (by kernel_rfl) rfl j1
   obtain ⟨e30,p30⟩:=fU.at dh 2 30 (by kernel_rfl) rfl j2
   have hB1:bO w (uF.alloc (.cells #[.slice (some ⟨g8,0,none⟩) 32 32, .slice (some ⟨g9,0,none⟩) 32 32, .slice sb nb cb] 22)) ([(w.heap.size,arr .u8 ks, 25),(w.heap.size+1,arr .u8 iC, 27),(gp,DX, 5),(g5,arr .u8 sp, 25),(g7,arr .u8 rl, 25),(g8,arr .u8 pl, 25),(g9,arr .u8 pk, 25)] ++ (ent ((some (.slice (some ⟨uF.heap.size,0,none⟩) 3 3):Option Value)) (#[.slice (some ⟨g8,0,none⟩) 32 32, .slice (some ⟨g9,0,none⟩) 32 32, .slice sb nb cb]) 22 ++ (ent (fF 5) ((if (fF 6).isSome=true then arr .u8 kl else arr .u8 zn)) 25))):=hB.ins (a:=[(w.heap.size,arr .u8 ks, 25),(w.heap.size+1,arr .u8 iC, 27),(gp,DX, 5),(g5,arr .u8 sp, 25),(g7,arr .u8 rl, 25),(g8,arr .u8 pl, 25),(g9,arr .u8 pk, 25)]) (b:=ent (fF 5) ((if (fF 6).isSome=true then arr .u8 kl else arr .u8 zn)) 25) _ _ (by rw [jZ];simp only [uf,abD,abE,abG,abH]) (by simp only [TU,abD,abE,abG,abH,abS,Bool.false_eq_true,if_false])
   rw [if_pos (by simp [Region.wanted])]
   unfold Oper.wp
   simp only [execOp,List.map_toArray,abO,abP,e28,e29,e30]
   generalize hX:Sem.run Tryz.prog _ uF=X
   have hrun:X = .ok (.value (.slice (some ⟨uF.heap.size,0,none⟩) 3 3)) (uF.alloc (.cells #[.slice (some ⟨g8,0,none⟩) 32 32, .slice (some ⟨g9,0,none⟩) 32 32, .slice sb nb cb] 22)):=by
    rw [← hX]
    first|rfl|kernel_rfl
   rw [hrun]
   exact gT _ _ ⟨j0,j1,j2,fun _ h=>⟨_,sI h⟩,j4,j5,hB1⟩
  refine bI.cons (fun fF bF uF kF fJ jZ mD dh fU gT=>?_) ?_
  ·obtain ⟨j0,j1,j2,j3,j4,j5,hB⟩:=fJ
   have y3:=dh 3 (by kernel_rfl)
   obtain ⟨v3,s3⟩:=sE y3
   obtain ⟨lD,rfl⟩:=j3 _ s3
   have e31:=fU.val 3 31 rfl s3
   have hB':=hB
   rw [s3] at hB'
   have hsl:=RX (hB'.get 7 rfl) (HSR1.out _ _ (hB'.get 5 rfl)) (Sl.bQ (hB'.get 6 rfl) 32 HPKL.out) (yM.out.below hB.below) (abF _) (abF _) HCB.out
   refine fQ rfl 111 [Operand.tmp 31] _ [.slice (some ⟨lD,0,none⟩) 3 3] rfl (by simp only [abO,abP,e31] <;> rfl) (fun _ _=>by kernel_rfl) ?_
   refine Calls.mono (HWD3.out _ _ hsl (iE vV.out hB.below) (HTQ.out.below hB.below)) ?_
   rintro e w1 ⟨rfl,hb⟩
   exact ⟨_,rfl,gT _ _ ⟨j0,j1,j2,j3,fun _ h=>⟨sI h,trivial⟩,j5,hB.kept hb⟩⟩
  refine bI.cons (fun fF bF uF kF fJ jZ mD dh fU gT=>?_) ?_
  ·obtain ⟨j0,j1,j2,j3,j4,j5,hB⟩:=fJ
   have n6:=mD.down 6 5 (by kernel_rfl) jZ
   refine bA rfl 25 rfl _ (dB.out _) ?_
   have hB1:bO w (uF.alloc (.cells (arr .u8 zn) 25)) ([(w.heap.size,arr .u8 ks, 25),(w.heap.size+1,arr .u8 iC, 27),(gp,DX, 5),(g5,arr .u8 sp, 25),(g7,arr .u8 rl, 25),(g8,arr .u8 pl, 25),(g9,arr .u8 pk, 25)] ++ (ent (fF 3) (#[.slice (some ⟨g8,0,none⟩) 32 32, .slice (some ⟨g9,0,none⟩) 32 32, .slice sb nb cb]) 22 ++ (ent ((some (.pointer (some ⟨uF.heap.size,0,none⟩)):Option Value)) ((if (fF 6).isSome=true then arr .u8 kl else arr .u8 zn)) 25))):=hB.ins (a:=[(w.heap.size,arr .u8 ks, 25),(w.heap.size+1,arr .u8 iC, 27),(gp,DX, 5),(g5,arr .u8 sp, 25),(g7,arr .u8 rl, 25),(g8,arr .u8 pl, 25),(g9,arr .u8 pk, 25)] ++ ent (fF 3) (#[.slice (some ⟨g8,0,none⟩) 32 32, .slice (some ⟨g9,0,none⟩) 32 32, .slice sb nb cb]) 22) (b:=[]) _ _ (by rw [jZ,n6];simp only [uf,abD,abE,abG,abH]) (by rw [n6];simp only [A9,abD,abE,abG,abH,abS,Bool.false_eq_true,if_false])
   exact gT _ _ ⟨j0,j1,j2,j3,j4,fun _ h=>⟨_,sI h⟩,hB1⟩
  refine bI.cons (fun fF bF uF kF fJ jZ mD dh fU gT=>?_) ?_
  ·obtain ⟨j0,j1,j2,j3,j4,j5,hB⟩:=fJ
   have y3:=dh 3 (by kernel_rfl)
   obtain ⟨v3,s3⟩:=sE y3
   obtain ⟨lD,rfl⟩:=j3 _ s3
   have y5:=dh 5 (by kernel_rfl)
   obtain ⟨v5,s5⟩:=sE y5
   obtain ⟨kG,rfl⟩:=j5 _ s5
   have e10:=fU.val 5 10 rfl s5
   obtain ⟨e32,p32⟩:=fU.at dh 4 32 (by kernel_rfl) rfl j4
   have hB':=hB
   rw [s3,s5,jZ] at hB'
   refine aI rfl 25 (.tmp 10) (.tmp 32) rfl (kG) (arr .u8 zn) _ 25 (hB'.get 8 rfl) e10 e32 (av _ _ HKLL.out dw.out) (bG HKLL.out) (ak _ _) ?_
   intro w1 hb1 hk1 hz1
   have hB1:bO w w1 ([(w.heap.size,arr .u8 ks, 25),(w.heap.size+1,arr .u8 iC, 27),(gp,DX, 5),(g5,arr .u8 sp, 25),(g7,arr .u8 rl, 25),(g8,arr .u8 pl, 25),(g9,arr .u8 pk, 25)] ++ (ent (fF 3) (#[.slice (some ⟨g8,0,none⟩) 32 32, .slice (some ⟨g9,0,none⟩) 32 32, .slice sb nb cb]) 22 ++ (ent (fF 5) ((if ((some undef:Option Value)).isSome=true then arr .u8 kl else arr .u8 zn)) 25))):=by rw [s3,s5];exact hB'.put 8 rfl hk1 hb1
   exact gT undef w1 ⟨j0,j1,j2,j3,j4,j5,hB1⟩
  exact bI.nil
 case et5 =>
 intro fF ut5 hall fJ
 obtain ⟨j0,j1,j2,j3,j4,j5,hB⟩:=fJ
 obtain ⟨v0,h0⟩:=sE (hall 0 (by decide))
 obtain ⟨rfl,p0⟩:=j0 _ h0
 obtain ⟨v1,h1⟩:=sE (hall 1 (by decide))
 obtain ⟨rfl,p1⟩:=j1 _ h1
 obtain ⟨v2,h2⟩:=sE (hall 2 (by decide))
 obtain ⟨rfl,p2⟩:=j2 _ h2
 obtain ⟨v3,h3⟩:=sE (hall 3 (by decide))
 obtain ⟨lD,rfl⟩:=j3 _ h3
 obtain ⟨v4,h4⟩:=sE (hall 4 (by decide))
 obtain ⟨rfl,p4⟩:=j4 _ h4
 obtain ⟨v5,h5⟩:=sE (hall 5 (by decide))
 obtain ⟨kG,rfl⟩:=j5 _ h5
 obtain ⟨v6,h6⟩:=sE (hall 6 (by decide))
 rw [h3,h5,h6] at hB
 have HBt5:Hid (bO w ut5 [(w.heap.size,arr .u8 ks, 25),(w.heap.size+1,arr .u8 iC, 27),(gp,DX, 5),(g5,arr .u8 sp, 25),(g7,arr .u8 rl, 25),(g8,arr .u8 pl, 25),(g9,arr .u8 pk, 25),(lD, #[.slice (some ⟨g8,0,none⟩) 32 32, .slice (some ⟨g9,0,none⟩) 32 32, .slice sb nb cb], 22),(kG,arr .u8 kl, 25)]):=abC hB
 simp only [laid,abI,abJ,h0,h1,h2,h3,h4,h5,h6,Act.put,sA,sZ,sS]
 clear j0 j1 j2 j3 j4 j5 hB h0 h1 h2 h3 h4 h5 h6 hall fF HI22
 clear p0 p1 p2 p4
 (try simp only [Exit.then])
 go_upto_region 6 with fail
 (try simp only [World.size_alloc,Act.put,sA,sZ,sS])
 refine gW (fun (fF:Fill) (uF:World)=>(∀ v,fF 0=some v→v = .agg (arr .u8 rl)∧True)∧(∀ v,fF 1=some v→v = .agg (arr .u8 kl)∧True)∧(∀ v,fF 2=some v→v = .agg (arr .u8 sp)∧True)∧(∀ v,fF 3=some v→v = .agg (arr .u8 ml)∧True)∧(∀ v,fF 4=some v→v = .agg (arr .u8 sl)∧True)∧(∀ v,fF 5=some v→∃ g:Nat,v = .pointer (some ⟨g,0,none⟩))∧bO w uF ([(w.heap.size,arr .u8 ks, 25),(w.heap.size+1,arr .u8 iC, 27),(gp,DX, 5),(g5,arr .u8 sp, 25),(g7,arr .u8 rl, 25),(g8,arr .u8 pl, 25),(g9,arr .u8 pk, 25),(lD, #[.slice (some ⟨g8,0,none⟩) 32 32, .slice (some ⟨g9,0,none⟩) 32 32, .slice sb nb cb], 22),(kG,arr .u8 kl, 25)] ++ (ent (fF 5) ((if (fF 6).isSome=true then arr .u8 sl else arr .u8 zn)) 25))) (by kernel_rfl) (by kernel_rfl) ?zt6 ?st6 ?et6
 case zt6=>exact ⟨fun _ h=>(by cases h),fun _ h=>(by cases h),fun _ h=>(by cases h),fun _ h=>(by cases h),fun _ h=>(by cases h),fun _ h=>(by cases h),HBt5.out.drew⟩
 case st6 =>
  refine bI.cons (fun fF bF uF kF fJ jZ mD dh fU gT=>?_) ?_
  ·obtain ⟨j0,j1,j2,j3,j4,j5,hB⟩:=fJ
   have e7:bF.eval (.tmp 7) = .pointer (some ⟨g7,0,none⟩):=fU.old' 7 (by kernel_rfl) rfl
   have hB':=hB
   refine eZ rfl 25 _ rfl (g7) (0) (arr .u8 rl) 25 (0,0) _ (hB'.get 4 rfl) e7 .u8 rl (aj _ _) Tryz.underlying25 rfl (bU HRLL.out) ?_
   exact gT _ _ ⟨fun _ h=>⟨sI h,trivial⟩,j1,j2,j3,j4,j5,hB⟩
  refine bI.cons (fun fF bF uF kF fJ jZ mD dh fU gT=>?_) ?_
  ·obtain ⟨j0,j1,j2,j3,j4,j5,hB⟩:=fJ
   have e10:bF.eval (.tmp 10) = .pointer (some ⟨kG,0,none⟩):=fU.old' 10 (by kernel_rfl) rfl
   have hB':=hB
   refine eZ rfl 25 _ rfl (kG) (0) (arr .u8 kl) 25 (0,0) _ (hB'.get 8 rfl) e10 .u8 kl (aj _ _) Tryz.underlying25 rfl (bU HKLL.out) ?_
   exact gT _ _ ⟨j0,fun _ h=>⟨sI h,trivial⟩,j2,j3,j4,j5,hB⟩
  refine bI.cons (fun fF bF uF kF fJ jZ mD dh fU gT=>?_) ?_
  ·obtain ⟨j0,j1,j2,j3,j4,j5,hB⟩:=fJ
   have e5:bF.eval (.tmp 5) = .pointer (some ⟨g5,0,none⟩):=fU.old' 5 (by kernel_rfl) rfl
   have hB':=hB
   refine eZ rfl 25 _ rfl (g5) (0) (arr .u8 sp) 25 (0,0) _ (hB'.get 3 rfl) e5 .u8 sp (aj _ _) Tryz.underlying25 rfl (bU Bz.out) ?_
   exact gT _ _ ⟨j0,j1,fun _ h=>⟨sI h,trivial⟩,j3,j4,j5,hB⟩
  refine bI.cons (fun fF bF uF kF fJ jZ mD dh fU gT=>?_) ?_
  ·obtain ⟨j0,j1,j2,j3,j4,j5,hB⟩:=fJ
   obtain ⟨e34,p34⟩:=fU.at dh 1 34 (by kernel_rfl) rfl j1
   obtain ⟨e35,p35⟩:=fU.at dh 2 35 (by kernel_rfl) rfl j2
   refine fQ rfl 117 [Operand.tmp 34,Operand.tmp 35] _ [.agg (arr .u8 kl), .agg (arr .u8 sp)] rfl (by simp only [abO,abP,e34,e35] <;> rfl) (fun _ _=>by kernel_rfl) ?_
   refine Calls.mono (HMUL.out _ (HTQ.out.below hB.below)) ?_
   rintro e w1 ⟨rfl,hb⟩
   exact ⟨_,rfl,gT _ _ ⟨j0,j1,j2,fun _ h=>⟨sI h,trivial⟩,j4,j5,hB.kept hb⟩⟩
  refine bI.cons (fun fF bF uF kF fJ jZ mD dh fU gT=>?_) ?_
  ·obtain ⟨j0,j1,j2,j3,j4,j5,hB⟩:=fJ
   obtain ⟨e33,p33⟩:=fU.at dh 0 33 (by kernel_rfl) rfl j0
   obtain ⟨e36,p36⟩:=fU.at dh 3 36 (by kernel_rfl) rfl j3
   refine fQ rfl 116 [Operand.tmp 33,Operand.tmp 36] _ [.agg (arr .u8 rl), .agg (arr .u8 ml)] rfl (by simp only [abO,abP,e33,e36] <;> rfl) (fun _ _=>by kernel_rfl) ?_
   refine Calls.mono (HADD.out _ (HTQ.out.below hB.below)) ?_
   rintro e w1 ⟨rfl,hb⟩
   exact ⟨_,rfl,gT _ _ ⟨j0,j1,j2,j3,fun _ h=>⟨sI h,trivial⟩,j5,hB.kept hb⟩⟩
  refine bI.cons (fun fF bF uF kF fJ jZ mD dh fU gT=>?_) ?_
  ·obtain ⟨j0,j1,j2,j3,j4,j5,hB⟩:=fJ
   have n6:=mD.down 6 5 (by kernel_rfl) jZ
   refine bA rfl 25 rfl _ (dB.out _) ?_
   have hB1:bO w (uF.alloc (.cells (arr .u8 zn) 25)) ([(w.heap.size,arr .u8 ks, 25),(w.heap.size+1,arr .u8 iC, 27),(gp,DX, 5),(g5,arr .u8 sp, 25),(g7,arr .u8 rl, 25),(g8,arr .u8 pl, 25),(g9,arr .u8 pk, 25),(lD, #[.slice (some ⟨g8,0,none⟩) 32 32, .slice (some ⟨g9,0,none⟩) 32 32, .slice sb nb cb], 22),(kG,arr .u8 kl, 25)] ++ (ent ((some (.pointer (some ⟨uF.heap.size,0,none⟩)):Option Value)) ((if (fF 6).isSome=true then arr .u8 sl else arr .u8 zn)) 25)):=hB.ins (a:=[(w.heap.size,arr .u8 ks, 25),(w.heap.size+1,arr .u8 iC, 27),(gp,DX, 5),(g5,arr .u8 sp, 25),(g7,arr .u8 rl, 25),(g8,arr .u8 pl, 25),(g9,arr .u8 pk, 25),(lD, #[.slice (some ⟨g8,0,none⟩) 32 32, .slice (some ⟨g9,0,none⟩) 32 32, .slice sb nb cb], 22),(kG,arr .u8 kl, 25)]) (b:=[]) _ _ (by rw [jZ,n6];simp only [uf,abD,abE,abG,abH]) (by rw [n6];simp only [A9,abD,abE,abG,abH,abS,Bool.false_eq_true,if_false])
   exact gT _ _ ⟨j0,j1,j2,j3,j4,fun _ h=>⟨_,sI h⟩,hB1⟩
  refine bI.cons (fun fF bF uF kF fJ jZ mD dh fU gT=>?_) ?_
  ·obtain ⟨j0,j1,j2,j3,j4,j5,hB⟩:=fJ
   have y5:=dh 5 (by kernel_rfl)
   obtain ⟨v5,s5⟩:=sE y5
   obtain ⟨mW,rfl⟩:=j5 _ s5
   have e11:=fU.val 5 11 rfl s5
   obtain ⟨e37,p37⟩:=fU.at dh 4 37 (by kernel_rfl) rfl j4
   have hB':=hB
   rw [s5,jZ] at hB'
   refine aI rfl 25 (.tmp 11) (.tmp 37) rfl (mW) (arr .u8 zn) _ 25 (hB'.get 9 rfl) e11 e37 (av _ _ Al.out dw.out) (bG Al.out) (ak _ _) ?_
   intro w1 hb1 hk1 hz1
   have hB1:bO w w1 ([(w.heap.size,arr .u8 ks, 25),(w.heap.size+1,arr .u8 iC, 27),(gp,DX, 5),(g5,arr .u8 sp, 25),(g7,arr .u8 rl, 25),(g8,arr .u8 pl, 25),(g9,arr .u8 pk, 25),(lD, #[.slice (some ⟨g8,0,none⟩) 32 32, .slice (some ⟨g9,0,none⟩) 32 32, .slice sb nb cb], 22),(kG,arr .u8 kl, 25)] ++ (ent (fF 5) ((if ((some undef:Option Value)).isSome=true then arr .u8 sl else arr .u8 zn)) 25)):=by rw [s5];exact hB'.put 9 rfl hk1 hb1
   exact gT undef w1 ⟨j0,j1,j2,j3,j4,j5,hB1⟩
  exact bI.nil
 case et6 =>
 intro fF ut6 hall fJ
 obtain ⟨j0,j1,j2,j3,j4,j5,hB⟩:=fJ
 obtain ⟨v0,h0⟩:=sE (hall 0 (by decide))
 obtain ⟨rfl,p0⟩:=j0 _ h0
 obtain ⟨v1,h1⟩:=sE (hall 1 (by decide))
 obtain ⟨rfl,p1⟩:=j1 _ h1
 obtain ⟨v2,h2⟩:=sE (hall 2 (by decide))
 obtain ⟨rfl,p2⟩:=j2 _ h2
 obtain ⟨v3,h3⟩:=sE (hall 3 (by decide))
 obtain ⟨rfl,p3⟩:=j3 _ h3
 obtain ⟨v4,h4⟩:=sE (hall 4 (by decide))
 obtain ⟨rfl,p4⟩:=j4 _ h4
 obtain ⟨v5,h5⟩:=sE (hall 5 (by decide))
 obtain ⟨mW,rfl⟩:=j5 _ h5
 obtain ⟨v6,h6⟩:=sE (hall 6 (by decide))
 rw [h5,h6] at hB
 have HBt6:Hid (bO w ut6 [(w.heap.size,arr .u8 ks, 25),(w.heap.size+1,arr .u8 iC, 27),(gp,DX, 5),(g5,arr .u8 sp, 25),(g7,arr .u8 rl, 25),(g8,arr .u8 pl, 25),(g9,arr .u8 pk, 25),(lD, #[.slice (some ⟨g8,0,none⟩) 32 32, .slice (some ⟨g9,0,none⟩) 32 32, .slice sb nb cb], 22),(kG,arr .u8 kl, 25),(mW,arr .u8 sl, 25)]):=abC hB
 simp only [laid,abI,abJ,h0,h1,h2,h3,h4,h5,h6,Act.put,sA,sZ,sS]
 clear j0 j1 j2 j3 j4 j5 hB h0 h1 h2 h3 h4 h5 h6 hall fF HBt5
 clear p0 p1 p2 p3 p4
 (try simp only [Exit.then])
 go_upto_region 8 with (first|((with_reducible refine aS 12 ?_);refine lA rfl rfl (vQ.out _) HBt6 ?_;intro g12 w30 HI30))
 (try simp only [World.size_alloc,Act.put,sA,sZ,sS])
 refine gW (fun (fF:Fill) (uF:World)=>(∀ v,fF 0=some v→v = .slice (some ⟨g12,0,none⟩) 32 64∧True)∧(∀ v,fF 1=some v→v = .slice (some ⟨g8,0,none⟩) 32 32∧True)∧(∀ v,fF 2=some v→v = .int .i64 ((32:Nat):Int)∧True)∧bO w uF ([(w.heap.size,arr .u8 ks, 25),(w.heap.size+1,arr .u8 iC, 27),(gp,DX, 5),(g5,arr .u8 sp, 25),(g7,arr .u8 rl, 25),(g8,arr .u8 pl, 25),(g9,arr .u8 pk, 25),(lD, #[.slice (some ⟨g8,0,none⟩) 32 32, .slice (some ⟨g9,0,none⟩) 32 32, .slice sb nb cb], 22),(kG,arr .u8 kl, 25),(mW,arr .u8 sl, 25),(g12,(if (fF 2).isSome=true then arr .u8 m1 else arr .u8 iC), 27)])) (by kernel_rfl) (by kernel_rfl) ?zt8 ?st8 ?et8
 case zt8=>exact ⟨fun _ h=>(by cases h),fun _ h=>(by cases h),fun _ h=>(by cases h),HI30.out.drew⟩
 case st8 =>
  refine bI.cons (fun fF bF uF kF fJ jZ mD dh fU gT=>?_) ?_
  ·obtain ⟨j0,j1,j2,hB⟩:=fJ
   have e12:bF.eval (.tmp 12) = .pointer (some ⟨g12,0,none⟩):=fU.old' 12 (by kernel_rfl) rfl
   exact eG rfl (.slice (some ⟨g12,0,none⟩) 32 64) (by simp only [execOp,e12];first|rfl|(go_simp;done)) (gT _ _ ⟨fun _ h=>⟨sI h,trivial⟩,j1,j2,hB⟩)
  refine bI.cons (fun fF bF uF kF fJ jZ mD dh fU gT=>?_) ?_
  ·obtain ⟨j0,j1,j2,hB⟩:=fJ
   have e8:bF.eval (.tmp 8) = .pointer (some ⟨g8,0,none⟩):=fU.old' 8 (by kernel_rfl) rfl
   exact eG rfl (.slice (some ⟨g8,0,none⟩) 32 32) (by simp only [execOp,e8];first|rfl|(go_simp;done)) (gT _ _ ⟨j0,fun _ h=>⟨sI h,trivial⟩,j2,hB⟩)
  refine bI.cons (fun fF bF uF kF fJ jZ mD dh fU gT=>?_) ?_
  ·obtain ⟨j0,j1,j2,hB⟩:=fJ
   obtain ⟨e38,p38⟩:=fU.at dh 0 38 (by kernel_rfl) rfl j0
   obtain ⟨e39,p39⟩:=fU.at dh 1 39 (by kernel_rfl) rfl j1
   have hB':=hB
   rw [jZ] at hB'
   refine uQ rfl (.tmp 38) (.tmp 39) rfl g12 0 32 64 32 ⟨g8,0,none⟩ iC pl 27 e38 e39 (hB'.get 10 rfl) (HSR1.out _ _ (hB'.get 5 rfl)) (by rw [rT.out];decide) ?_
   rw [Em.out]
   intro w1 hb1 hk1
   have hB1:bO w w1 ([(w.heap.size,arr .u8 ks, 25),(w.heap.size+1,arr .u8 iC, 27),(gp,DX, 5),(g5,arr .u8 sp, 25),(g7,arr .u8 rl, 25),(g8,arr .u8 pl, 25),(g9,arr .u8 pk, 25),(lD, #[.slice (some ⟨g8,0,none⟩) 32 32, .slice (some ⟨g9,0,none⟩) 32 32, .slice sb nb cb], 22),(kG,arr .u8 kl, 25),(mW,arr .u8 sl, 25),(g12,(if ((some (.int .i64 ((32:Nat):Int)):Option Value)).isSome=true then arr .u8 m1 else arr .u8 iC), 27)]):=hB'.put 10 rfl hk1 hb1
   exact gT _ _ ⟨j0,j1,fun _ h=>⟨sI h,trivial⟩,hB1⟩
  exact bI.nil
 case et8 =>
 intro fF ut8 hall fJ
 obtain ⟨j0,j1,j2,hB⟩:=fJ
 obtain ⟨v0,h0⟩:=sE (hall 0 (by decide))
 obtain ⟨rfl,p0⟩:=j0 _ h0
 obtain ⟨v1,h1⟩:=sE (hall 1 (by decide))
 obtain ⟨rfl,p1⟩:=j1 _ h1
 obtain ⟨v2,h2⟩:=sE (hall 2 (by decide))
 obtain ⟨rfl,p2⟩:=j2 _ h2
 rw [h2] at hB
 have HBt8:Hid (bO w ut8 [(w.heap.size,arr .u8 ks, 25),(w.heap.size+1,arr .u8 iC, 27),(gp,DX, 5),(g5,arr .u8 sp, 25),(g7,arr .u8 rl, 25),(g8,arr .u8 pl, 25),(g9,arr .u8 pk, 25),(lD, #[.slice (some ⟨g8,0,none⟩) 32 32, .slice (some ⟨g9,0,none⟩) 32 32, .slice sb nb cb], 22),(kG,arr .u8 kl, 25),(mW,arr .u8 sl, 25),(g12,arr .u8 m1, 27)]):=abC hB
 simp only [laid,abI,abJ,h0,h1,h2,Act.put,sA,sZ,sS]
 clear j0 j1 j2 hB h0 h1 h2 hall fF HI30
 clear p0 p1 p2
 (try simp only [Exit.then])
 go_upto_region 9 with fail
 (try simp only [World.size_alloc,Act.put,sA,sZ,sS])
 refine gW (fun (fF:Fill) (uF:World)=>(∀ v,fF 0=some v→v = .slice (some ⟨g12,32,none⟩) 32 32∧True)∧(∀ v,fF 1=some v→v = .slice (some ⟨mW,0,none⟩) 32 32∧True)∧(∀ v,fF 2=some v→v = .int .i64 ((32:Nat):Int)∧True)∧bO w uF ([(w.heap.size,arr .u8 ks, 25),(w.heap.size+1,arr .u8 iC, 27),(gp,DX, 5),(g5,arr .u8 sp, 25),(g7,arr .u8 rl, 25),(g8,arr .u8 pl, 25),(g9,arr .u8 pk, 25),(lD, #[.slice (some ⟨g8,0,none⟩) 32 32, .slice (some ⟨g9,0,none⟩) 32 32, .slice sb nb cb], 22),(kG,arr .u8 kl, 25),(mW,arr .u8 sl, 25),(g12,(if (fF 2).isSome=true then arr .u8 res else arr .u8 m1), 27)])) (by kernel_rfl) (by kernel_rfl) ?zt9 ?st9 ?et9
 case zt9=>exact ⟨fun _ h=>(by cases h),fun _ h=>(by cases h),fun _ h=>(by cases h),HBt8.out.drew⟩
 case st9 =>
  refine bI.cons (fun fF bF uF kF fJ jZ mD dh fU gT=>?_) ?_
  ·obtain ⟨j0,j1,j2,hB⟩:=fJ
   have e12:bF.eval (.tmp 12) = .pointer (some ⟨g12,0,none⟩):=fU.old' 12 (by kernel_rfl) rfl
   exact eG rfl (.slice (some ⟨g12,32,none⟩) 32 32) (by simp only [execOp,e12];first|rfl|(go_simp;done)) (gT _ _ ⟨fun _ h=>⟨sI h,trivial⟩,j1,j2,hB⟩)
  refine bI.cons (fun fF bF uF kF fJ jZ mD dh fU gT=>?_) ?_
  ·obtain ⟨j0,j1,j2,hB⟩:=fJ
   have e11:bF.eval (.tmp 11) = .pointer (some ⟨mW,0,none⟩):=fU.old' 11 (by kernel_rfl) rfl
   exact eG rfl (.slice (some ⟨mW,0,none⟩) 32 32) (by simp only [execOp,e11];first|rfl|(go_simp;done)) (gT _ _ ⟨j0,fun _ h=>⟨sI h,trivial⟩,j2,hB⟩)
  refine bI.cons (fun fF bF uF kF fJ jZ mD dh fU gT=>?_) ?_
  ·obtain ⟨j0,j1,j2,hB⟩:=fJ
   obtain ⟨e41,p41⟩:=fU.at dh 0 41 (by kernel_rfl) rfl j0
   obtain ⟨e42,p42⟩:=fU.at dh 1 42 (by kernel_rfl) rfl j1
   have hB':=hB
   rw [jZ] at hB'
   refine uQ rfl (.tmp 41) (.tmp 42) rfl g12 32 32 32 32 ⟨mW,0,none⟩ m1 sl 27 e41 e42 (hB'.get 10 rfl) (HSR2.out _ _ (hB'.get 9 rfl)) (by rw [HM1L.out];decide) ?_
   rw [Ia.out]
   intro w1 hb1 hk1
   have hB1:bO w w1 ([(w.heap.size,arr .u8 ks, 25),(w.heap.size+1,arr .u8 iC, 27),(gp,DX, 5),(g5,arr .u8 sp, 25),(g7,arr .u8 rl, 25),(g8,arr .u8 pl, 25),(g9,arr .u8 pk, 25),(lD, #[.slice (some ⟨g8,0,none⟩) 32 32, .slice (some ⟨g9,0,none⟩) 32 32, .slice sb nb cb], 22),(kG,arr .u8 kl, 25),(mW,arr .u8 sl, 25),(g12,(if ((some (.int .i64 ((32:Nat):Int)):Option Value)).isSome=true then arr .u8 res else arr .u8 m1), 27)]):=hB'.put 10 rfl hk1 hb1
   exact gT _ _ ⟨j0,j1,fun _ h=>⟨sI h,trivial⟩,hB1⟩
  exact bI.nil
 case et9 =>
 intro fF ut9 hall fJ
 obtain ⟨j0,j1,j2,hB⟩:=fJ
 obtain ⟨v0,h0⟩:=sE (hall 0 (by decide))
 obtain ⟨rfl,p0⟩:=j0 _ h0
 obtain ⟨v1,h1⟩:=sE (hall 1 (by decide))
 obtain ⟨rfl,p1⟩:=j1 _ h1
 obtain ⟨v2,h2⟩:=sE (hall 2 (by decide))
 obtain ⟨rfl,p2⟩:=j2 _ h2
 rw [h2] at hB
 have HBt9:Hid (bO w ut9 [(w.heap.size,arr .u8 ks, 25),(w.heap.size+1,arr .u8 iC, 27),(gp,DX, 5),(g5,arr .u8 sp, 25),(g7,arr .u8 rl, 25),(g8,arr .u8 pl, 25),(g9,arr .u8 pk, 25),(lD, #[.slice (some ⟨g8,0,none⟩) 32 32, .slice (some ⟨g9,0,none⟩) 32 32, .slice sb nb cb], 22),(kG,arr .u8 kl, 25),(mW,arr .u8 sl, 25),(g12,arr .u8 res, 27)]):=abC hB
 simp only [laid,abI,abJ,h0,h1,h2,Act.put,sA,sZ,sS]
 clear j0 j1 j2 hB h0 h1 h2 hall fF HBt8
 clear p0 p1 p2
 (try simp only [Exit.then])
 go_wp2_with (first|((with_reducible refine aS 44 ?_);refine lL rfl rfl (HBt9.out.get 10 rfl) rfl (aj _ _) Tryz.underlying27 rfl (Sl.sig_i Q6.out) ?_)|((with_reducible refine aT 4 ?_);refine lS rfl rfl HBt9 1 rfl rfl rfl (av _ _ Q6.out rT.out) (Sl.sU Q6.out) (ak _ _) ?_;intro w40 HI40))
 (try simp only [Exit.then])
 refine bodyPost_ret (results_cell_row rfl _ _ (w.heap.size+1) 27 _ (0,0) _ rfl (HI40.out.get 1 rfl) Tryz.underlying27 rfl (Sl.sU Q6.out)) rfl ?_
 exact ⟨rfl,HI40.out.below⟩
end Go.Proofs.YthdgbgleklkaiaaGreatDoor.Rd
namespace Go.Proofs.YthdgbgleklkaiaaGreatDoor.Ce
open Go.RowKit Lm Fp Cu Sl Sc
structure NQ (w:World):Prop extends TabP w where
 q:Rd.ny w
theorem NQ.below {u u':World} (h:NQ u) (b:Below u.heap.size u u'):NQ u':=⟨h.toTabP.below b,zl h.q b⟩
theorem TabV.s {u:World} (h:TabV u):NQ u:=⟨h.toTabP,h.q⟩
end Go.Proofs.YthdgbgleklkaiaaGreatDoor.Ce
