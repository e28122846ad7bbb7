/- The document's parts and Public: portcullislaw16.alive: The document's CheckCert, CheckStop. Condition: as each theorem says. -/

import Derived.Test.YthdgbgleklkaiaaDoorQa03
import Derived.Test.YthdgbgleklkaiaaDoorQa05
import Derived.Test.YthdgbgleklkaiaaDoorQa18
import Derived.Test.YthdgbgleklkaiaaDoorQa19
import Derived.Test.YthdgbgleklkaiaaDoorQa20
import Derived.Test.YthdgbgleklkaiaaDoorQa21
import Derived.Test.YthdgbgleklkaiaaDoorQa22
import Derived.Test.YthdgbgleklkaiaaDoorQa25
import Derived.Test.YthdgbgleklkaiaaDoorQa27
import Derived.Test.YthdgbgleklkaiaaDoorQa28
import Derived.Test.YthdgbgleklkaiaaDoorQa31
set_option linter.unusedSimpArgs false
set_option linter.unusedVariables false
set_option maxRecDepth 100000
set_option maxHeartbeats 16000000
namespace Go.Proofs.YthdgbgleklkaiaaDoor.Rd
open Go.RowKit Lm Fp Cu Sc
theorem yR (seed:Nat) (w:World) (hTK:Hb.eB w) :
  Calls Tryd.prog 48 #[.agg (arr .u8 (n32 seed))] w fun e w'=>∃ g c cur,e = .returned (.tuple #[.agg (arr .u8 (n32 (jJ seed))), .slice (some ⟨g,0,none⟩) 32 c])∧(w'.heap[g]? = some (.cells cur 5 (0,0))∧w.heap.size≤g∧32≤c∧cur.toList.take 32=(jI seed).map (Value.int .u8))∧Below w.heap.size w w':=by
 have hkb:=eH seed
 have hkl:=bW seed
 have hh:bytes (Hb.hash (n32 seed)):=o8 (n32 seed)
 have hl:(Hb.hash (n32 seed)).length=64:=Hb.dZ (n32 seed)
 have h32:(Hb.hash (n32 seed)).take 32=n32 (eY ((Hb.hash (n32 seed)).take 32)):=(tH (nN hh 32) (by rw [List.length_take,hl];rfl)).symm
 have hlt:eY ((Hb.hash (n32 seed)).take 32) < 2 ^ 256:=by
  have:=xU (nN hh 32)
  rw [List.length_take,hl] at this
  rwa [show (2:Nat) ^ 256=256 ^ 32 by decide]
 have hsp:jJ seed=clamp (eY ((Hb.hash (n32 seed)).take 32)):=rfl
 have hsr:jI seed=(Hb.hash (n32 seed)).drop 32:=rfl
 have hcl:=fun (u:World)=>wO (eY ((Hb.hash (n32 seed)).take 32)) u hlt
 rw [← hsp] at hcl
 rw [show aW (bD 256 32 (eY ((Hb.hash (n32 seed)).take 32)))=n32 (eY ((Hb.hash (n32 seed)).take 32)) from rfl,← h32] at hcl
 have hsh:=fun (u:World) (g:Nat) (t:TypeId) (h:u.heap[g]? = some (.cells (arr .u8 (n32 seed)) t (0,0))) (hk:Hb.eB u)=>Hb.kE (some ⟨g,0,none⟩) 32 32 (n32 seed) u (Sl.bO h 32 hkl) hkb (by decide) hk
 obtain ⟨sp,hspp⟩:∃ x,x=n32 (jJ seed):=⟨_,rfl⟩
 rw [show aW (bD 256 32 (jJ seed))=n32 (jJ seed) from rfl,← hspp] at hcl
 rw [← hspp]
 have Aj:Hid (sp.length=32):=Lib.hid (by rw [hspp];exact bW _)
 rw [hsr]
 obtain ⟨ks,hks⟩:∃ x,x=n32 seed:=⟨_,rfl⟩
 rw [← hks] at hsh hl hcl hkl ⊢
 obtain ⟨hs,hhs⟩:∃ x,x=Hb.hash ks:=⟨_,rfl⟩
 rw [← hhs] at hsh hl hcl ⊢
 obtain ⟨hx0,hh0⟩:∃ x,x=hs.take 32:=⟨_,rfl⟩
 have hs0:=fun (u:World) (g:Nat) (h:u.heap[g]? = some (.cells (arr .u8 hs) 26 (0,0)))=>Sl.DJ h 0 32 (by rw [hl];decide)
 rw [List.drop_zero,← hh0] at hs0
 rw [← hh0] at hcl
 have hs1:=fun (u:World) (g:Nat) (h:u.heap[g]? = some (.cells (arr .u8 hs) 26 (0,0)))=>Sl.DJ h 32 32 (by rw [hl];decide)
 obtain ⟨hx1,xW⟩:∃ x,x=hs.drop 32:=⟨_,rfl⟩
 rw [← xW,List.take_of_length_le (show hx1.length≤32 by rw [xW,List.length_drop,hl];decide)] at hs1
 rw [← xW]
 have H0L:Hid (hx0.length=32):=Lib.hid (by rw [hh0,List.length_take,hl];rfl)
 have H1L:Hid (hx1.length=32):=Lib.hid (by rw [xW,List.length_drop,hl])
 have l9:=Lib.hid hkl
 have HSL:=Lib.hid hl
 have mV:=Lib.hid hcl
 have HSH:=Lib.hid hsh
 have ET:=Lib.hid hs0
 have gY:=Lib.hid hs1
 have vO:=Lib.hid hTK
 obtain ⟨zn,hzn⟩:∃ zs:List Int,zs=List.replicate 32 0:=⟨_,rfl⟩
 have dx:Hid (∀ w,(zeroValue 23).run Tryd.prog w = .ok (.agg (arr .u8 zn)) w):=Lib.hid (by intro w;rw [hzn];exact zero_num w)
 have cB:Hid (zn.length=32):=Lib.hid (by rw [hzn];rfl)
 obtain ⟨fP,oW⟩:∃ zs:List Int,zs=List.replicate 64 0:=⟨_,rfl⟩
 have vL:Hid (∀ w,(zeroValue 26).run Tryd.prog w = .ok (.agg (arr .u8 fP)) w):=Lib.hid (by intro w;rw [oW];exact Sl.sJ w)
 have rY:Hid (fP.length=64):=Lib.hid (by rw [oW];rfl)
 have HI0:=Lib.hid (bM.two w (arr .u8 ks) (arr .u8 zn) 23 23)
 clear hzn oW hkb hkl hh hl h32 hlt hsp hsr hcl hsh hspp hks hhs hh0 hs0 hs1 xW hTK
 go_enter Tryd.func48, Tryd.ntmps48
 go_upto_region 1 with (first|((with_reducible refine aS 2 ?_);refine aj rfl 23 rfl _ (dx.out _) ?_))
 (try simp only [World.size_alloc,Act.put,sA,sZ,sS])
 generalize ((w.alloc (.cells (arr .u8 ks) 23)).alloc (.cells (arr .u8 zn) 23))=wb at HI0 ⊢
 go_upto_region 2 with (first|((with_reducible show Calls _ 64 _ _ _);go_at_call 64; refine (HSH.out _ _ _ (HI0.out.get 0 rfl) (ig vO.out HI0.out.below)).mono ?_;rintro e w1 ⟨rfl,hb1⟩;have HI1:=Lib.hid (HI0.out.kept hb1);clear hb1)|((with_reducible refine aS 4 ?_);refine aj rfl 26 rfl _ (vL.out _) ?_;have HI2:=Lib.hid (HI1.out.alloc (arr .u8 fP) 26);generalize w1.heap.size=g4 at HI2 ⊢; generalize w1.alloc (.cells (arr .u8 fP) 26)=w2 at HI2 ⊢)|((with_reducible refine aT 4 ?_);refine ah rfl 26 _ _ rfl (g4) _ _ 26 (HI2.out.get 2 rfl) rfl rfl (ay _ _ HSL.out rY.out) (Sl.kS HSL.out) (av _ _) ?_;intro w3 hb3 hk3 hz3;have HI3:=Lib.hid (HI2.out.put 2 rfl hk3 hb3);clear hb3 hk3 hz3))
 (try simp only [World.size_alloc,Act.put,sA,sZ,sS])
 go_upto_region 3 with (first|((with_reducible refine aS 5 ?_);refine aj rfl 23 rfl _ (dx.out _) ?_;have HI4:=Lib.hid (HI3.out.alloc (arr .u8 zn) 23);generalize w3.heap.size=g5 at HI4 ⊢; generalize w3.alloc (.cells (arr .u8 zn) 23)=w4 at HI4 ⊢))
 (try simp only [World.size_alloc,Act.put,sA,sZ,sS])
 refine gL (fun (fF:Fill) (uF:World)=>(∀ v,fF 0=some v→v = .slice (some ⟨g5,0,none⟩) 32 32∧True)∧(∀ v,fF 1=some v→v = .slice (some ⟨g4,0,none⟩) 32 64∧True)∧(∀ v,fF 2=some v→v = .int .i64 ((32:Nat):Int)∧True)∧bM w uF ([(w.heap.size,arr .u8 ks, 23),(w.heap.size+1,arr .u8 zn, 23),(g4,arr .u8 hs, 26),(g5,(if (fF 2).isSome=true then arr .u8 hx0 else arr .u8 zn), 23)])) (by kernel_rfl) (by kernel_rfl) ?zs3 ?ss3 ?es3
 case zs3=>exact ⟨fun _ h=>(by cases h),fun _ h=>(by cases h),fun _ h=>(by cases h),HI4.out.drew⟩
 case ss3 =>
  refine bH.cons (fun fF bF uF kF eZ jO lX bZ fD gJ=>?_) ?_
  ·obtain ⟨j0,j1,j2,hB⟩:=eZ
   have e5:bF.eval (.tmp 5) = .pointer (some ⟨g5,0,none⟩):=fD.old' 5 (by kernel_rfl) rfl
   exact dY rfl (.slice (some ⟨g5,0,none⟩) 32 32) (by simp only [execOp,e5];first|rfl|(go_simp;done)) (gJ _ _ ⟨fun _ h=>⟨sI h,trivial⟩,j1,j2,hB⟩)
  refine bH.cons (fun fF bF uF kF eZ jO lX bZ fD gJ=>?_) ?_
  ·obtain ⟨j0,j1,j2,hB⟩:=eZ
   have e4:bF.eval (.tmp 4) = .pointer (some ⟨g4,0,none⟩):=fD.old' 4 (by kernel_rfl) rfl
   exact dY rfl (.slice (some ⟨g4,0,none⟩) 32 64) (by simp only [execOp,e4];first|rfl|(go_simp;done)) (gJ _ _ ⟨j0,fun _ h=>⟨sI h,trivial⟩,j2,hB⟩)
  refine bH.cons (fun fF bF uF kF eZ jO lX bZ fD gJ=>?_) ?_
  ·obtain ⟨j0,j1,j2,hB⟩:=eZ
   obtain ⟨e8,p8⟩:=fD.at bZ 0 8 (by kernel_rfl) rfl j0
   obtain ⟨e9,p9⟩:=fD.at bZ 1 9 (by kernel_rfl) rfl j1
   have hB':=hB
   rw [jO] at hB'
   refine uS rfl (.tmp 8) (.tmp 9) rfl g5 0 32 32 64 ⟨g4,0,none⟩ zn hx0 23 e8 e9 (hB'.get 3 rfl) (ET.out _ _ (hB'.get 2 rfl)) (by rw [cB.out];decide) ?_
   rw [copied cB.out H0L.out]
   intro w1 hb1 hk1
   have hB1:bM w w1 ([(w.heap.size,arr .u8 ks, 23),(w.heap.size+1,arr .u8 zn, 23),(g4,arr .u8 hs, 26),(g5,(if ((some (.int .i64 ((32:Nat):Int)):Option Value)).isSome=true then arr .u8 hx0 else arr .u8 zn), 23)]):=hB'.put 3 rfl hk1 hb1
   exact gJ _ _ ⟨j0,j1,fun _ h=>⟨sI h,trivial⟩,hB1⟩
  exact bH.nil
 case es3 =>
 intro fF us3 hall eZ
 obtain ⟨j0,j1,j2,hB⟩:=eZ
 obtain ⟨v0,h0⟩:=sE (hall 0 (by decide))
 obtain ⟨rfl,p0⟩:=j0 _ h0
 obtain ⟨v1,h1⟩:=sE (hall 1 (by decide))
 obtain ⟨rfl,p1⟩:=j1 _ h1
 obtain ⟨v2,h2⟩:=sE (hall 2 (by decide))
 obtain ⟨rfl,p2⟩:=j2 _ h2
 rw [h2] at hB
 have HBs3:Hid (bM w us3 [(w.heap.size,arr .u8 ks, 23),(w.heap.size+1,arr .u8 zn, 23),(g4,arr .u8 hs, 26),(g5,arr .u8 hx0, 23)]):=Lib.hid hB
 simp only [laid,Nat.zero_add,Nat.reduceAdd,h0,h1,h2,Act.put,sA,sZ,sS]
 clear j0 j1 j2 hB h0 h1 h2 hall fF HI4
 clear p0 p1 p2
 (try simp only [Exit.then])
 go_upto_region 4 with fail
 (try simp only [World.size_alloc,Act.put,sA,sZ,sS])
 refine wp_region_held_drew (S:=fun _=>True) (by kernel_rfl) trivial (fun hHeld=>?_)
 have dX:=Lib.hid (HBs3.out.drew)
 generalize us3.drew=wd at dX ⊢
 refine wpAnyH_take (i:=2) (oi:=(⟨some 13,_,_,_,_,none⟩:Oper)) (v := .slice (some ⟨g4,32,none⟩) 32 32) rfl (by kernel_rfl) (by kernel_rfl) (by kernel_rfl) (fun _ _ _ h=>h) (Or.inl ⟨by rfl,?hy5301⟩) trivial ?Uv
 case hy5301=>(intro w _;(try dsimp only);go_simp;try (with_reducible rfl))
 (try simp only [Act.put,sA,sZ,sS])
 refine wpAnyH_ready (rs:=[0]) (by kernel_rfl) (by simp) ?_
 refine AllReadyH.cons (o:=(⟨some 11,_,_,_,_,none⟩:Oper)) rfl (fun K hK=>?_) AllReadyH.nil
 refine eO rfl 23 _ rfl g5 0 (arr .u8 hx0) 23 (0,0) _ (dX.out.get 3 rfl) rfl .u8 hx0 (au _ _) Tryd.underlying23 rfl (bU H0L.out) ?_
 refine hK.out _ _ trivial (fun _=>?_)
 clear hK K
 (try simp only [Act.put,sA,sZ,sS])
 refine wpAnyH_ready (rs:=[1]) (by kernel_rfl) (by simp) ?_
 refine AllReadyH.cons (o:=(⟨some 12,_,_,_,_,none⟩:Oper)) rfl (fun K hK=>?_) AllReadyH.nil
 go_simp
 go_at_call 65
 refine (mV.out _).mono ?_
 rintro e w5 ⟨rfl,hb5⟩
 have gu:=Lib.hid (dX.out.kept hb5)
 clear hb5
 (try dsimp only)
 refine hK.out _ _ trivial (fun _=>?_)
 clear hK K
 (try simp only [Act.put,sA,sZ,sS])
 refine wpAnyH_ready (rs:=[3]) (by kernel_rfl) (by simp) ?_
 refine AllReadyH.cons (o:=(⟨some 14,_,_,_,_,none⟩:Oper)) rfl (fun K hK=>?_) AllReadyH.nil
 refine fQ rfl (.const (.slice none 0 0)) (.tmp 13) rfl w5.heap.size _ [] rfl (aV.nil _ _) _ 32 32 hx1 rfl (gY.out _ _ (gu.out.get 2 rfl)) (by decide) (Nat.le_refl _) ?_
 rw [List.nil_append]
 intro vf w6 hown hgr _ _
 have hb6:Below w5.heap.size w5 w6:=aQ (aV.nil w5 w5.heap.size) hgr (Below.refl _ _) (Nat.le_refl _)
 obtain ⟨-, ho⟩:=hown
 rcases ho with ⟨-, h0'⟩|⟨gf,cap,cur,rfl,hBg,hgf,hn,hm,hsz,ht⟩
 ·exact absurd h0' (by rw [H1L.out];decide)
 rw [H1L.out] at hn ht
 have HBf:=Lib.hid (Sl.bM.add gu.out hb6 hgf hBg)
 have HC:=Lib.hid hn
 have HT':=Lib.hid ht
 rw [H1L.out]
 clear hgr hb6 hBg hgf hn hm hsz ht
 refine hK.out _ _ trivial (fun _=>?_)
 clear hK K
 (try simp only [Act.put,sA,sZ,sS])
 refine wpAnyH_ready (rs:=[4]) (by kernel_rfl) (by simp) ?_
 refine AllReadyH.cons (o:=(⟨none,_,_,_,_,none⟩:Oper)) rfl (fun K hK=>?_) AllReadyH.nil
 refine aD rfl 23 (.tmp 2) (.tmp 12) rfl (w.heap.size+1) _ _ 23 (HBf.out.get 1 rfl) rfl rfl (ay _ _ Aj.out cB.out) (bE Aj.out) (av _ _) ?_
 intro w7 dV iA kZ
 have eX:=Lib.hid (HBf.out.put 1 rfl iA dV)
 clear dV iA kZ
 refine hK.out _ _ trivial (fun _=>?_)
 clear hK K
 (try simp only [Act.put,sA,sZ,sS])
 refine wpAnyH_take (i:=5) (oi:=(⟨some 3,_,_,_,_,none⟩:Oper)) (v := .slice (some ⟨gf,0,none⟩) 32 cap) rfl (by kernel_rfl) (by kernel_rfl) (by kernel_rfl) (fun _ _ _ h=>h) (Or.inl ⟨by rfl,?hy5302⟩) trivial ?rest5302
 case hy5302=>(intro w _;(try dsimp only);first|rfl|kernel_rfl)
 (try simp only [Act.put,sA,sZ,sS])
 refine wpAnyH_done (by kernel_rfl) ?_ _
 (try simp only [Exit.then])
 go_wp2_with fail
 refine bodyPost_ret (aP rfl _ _ (w.heap.size+1) 23 _ (0,0) _ _ rfl (eX.out.get 1 rfl) Tryd.underlying23 rfl (bE Aj.out) rfl) rfl ?_
 exact ⟨gf,cap,cur,rfl,⟨eX.out.get 4 rfl,eX.out.low 4 rfl,HC.out,by rw [HT'.out]⟩,eX.out.below⟩
theorem wK (seed:Nat) (w:World) (Ri:vG w) (hTX:Sg w) (hTY:Sd w) (hTK:Hb.eB w) :
  Calls Tryd.prog 34 #[.agg (arr .u8 (n32 seed))] w fun e w'=>e = .returned (.agg (arr .u8 (n32 (xC seed))))∧Below w.heap.size w w':=by
 have hpa:=fun (u:World) (h:Hb.eB u)=>yR seed u h
 have tT:=fun (ps:List Int) (P:Pt) (u:World) (h1:lZ ps P) (h2:vG u)=>GV ps P (jJ seed) u h1 h2
 have hw1:=fun (ps:List Int) (u:World) (h:lZ ps (jU base (jJ seed) 256))=>wD ps _ u h
 rw [show lu (jU base (jJ seed) 256)=xC seed from rfl] at hw1
 obtain ⟨l1,hl1⟩:∃ x,x=n32 (xC seed):=⟨_,rfl⟩
 rw [show aW (bD 256 32 (xC seed))=n32 (xC seed) from rfl,← hl1] at hw1
 rw [← hl1]
 have oH:Hid (l1.length=32):=Lib.hid (by rw [hl1];exact bW _)
 rw [show aW (bD 256 32 (jJ seed))=n32 (jJ seed) from rfl] at tT
 obtain ⟨SP,hSP⟩:∃ x,x=jJ seed:=⟨_,rfl⟩
 rw [← hSP] at hpa tT hw1
 obtain ⟨sp,hsp⟩:∃ x,x=n32 SP:=⟨_,rfl⟩
 rw [← hsp] at hpa tT
 have Aj:Hid (sp.length=32):=Lib.hid (by rw [hsp];exact bW _)
 obtain ⟨sr,hsr⟩:∃ x,x=jI seed:=⟨_,rfl⟩
 rw [← hsr] at hpa
 obtain ⟨ks,hks⟩:∃ x,x=n32 seed:=⟨_,rfl⟩
 rw [← hks] at hpa ⊢
 have l9:Hid (ks.length=32):=Lib.hid (by rw [hks];exact bW _)
 have HPA:=Lib.hid hpa
 have IG:=Lib.hid tT
 have HW1:=Lib.hid hw1
 have HTD:=Lib.hid Ri
 have HTX:=Lib.hid hTX
 have HTY:=Lib.hid hTY
 have vO:=Lib.hid hTK
 obtain ⟨zn,hzn⟩:∃ zs:List Int,zs=List.replicate 32 0:=⟨_,rfl⟩
 have dx:Hid (∀ w,(zeroValue 23).run Tryd.prog w = .ok (.agg (arr .u8 zn)) w):=Lib.hid (by intro w;rw [hzn];exact zero_num w)
 have cB:Hid (zn.length=32):=Lib.hid (by rw [hzn];rfl)
 have HI0:=Lib.hid (bM.two w (arr .u8 ks) (arr .u8 zn) 23 23)
 clear hzn hpa tT hw1 hl1 hSP hsp hsr hks Ri hTX hTY hTK
 go_enter Tryd.func34, Tryd.ntmps34
 go_upto_region 1 with (first|((with_reducible refine aS 2 ?_);refine aj rfl 23 rfl _ (dx.out _) ?_))
 (try simp only [World.size_alloc,Act.put,sA,sZ,sS])
 generalize ((w.alloc (.cells (arr .u8 ks) 23)).alloc (.cells (arr .u8 zn) 23))=wb at HI0 ⊢
 go_upto_region 2 with (first|((with_reducible refine aS 6 ?_);refine ak rfl 23 _ rfl (w.heap.size) 0 _ 23 (0,0) _ (HI0.out.get 0 rfl) rfl .u8 ks (au _ _) Tryd.underlying23 rfl (bU l9.out) ?_)|((with_reducible show Calls _ 48 _ _ _);go_at_call 48; refine (HPA.out _ (ig vO.out HI0.out.below)).mono ?_;rintro e w1 ⟨gp,cp,CW,rfl,⟨h2,h3,h4,h5⟩,hb1⟩;have HI1:=Lib.hid (Sl.bM.add HI0.out hb1 h2 h3);have HCP:=Lib.hid h4;have HCU:=Lib.hid h5;clear hb1 h2 h3 h4 h5)|((with_reducible refine aS 3 ?_);refine aj rfl 23 rfl _ (dx.out _) ?_;have HI2:=Lib.hid (HI1.out.alloc (arr .u8 zn) 23);generalize w1.heap.size=g3 at HI2 ⊢; generalize w1.alloc (.cells (arr .u8 zn) 23)=w2 at HI2 ⊢)|((with_reducible refine aT 3 ?_);refine ah rfl 23 _ _ rfl (g3) _ _ 23 (HI2.out.get 3 rfl) rfl rfl (ay _ _ Aj.out cB.out) (bE Aj.out) (av _ _) ?_;intro w3 hb3 hk3 hz3;have HI3:=Lib.hid (HI2.out.put 3 rfl hk3 hb3);clear hb3 hk3 hz3))
 (try simp only [World.size_alloc,Act.put,sA,sZ,sS])
 have dU:=Lib.hid ((Kept.refl (fun x=>x=w.heap.size+1) w3).drew)
 have dX:=Lib.hid (HI3.out.drew)
 refine wp_region_held_drew (S:=(fun w'=>Kept (fun x=>x=w.heap.size+1) w3 w')) (by kernel_rfl) (dU.out) (fun hHeld=>?_)
 generalize w3.drew=wd at dU dX hHeld ⊢
 refine' wpAnyH_take (i:=1) (oi:=(⟨some 11,_,_,_,_,none⟩:Oper)) (v:=_) rfl (by kernel_rfl) (by kernel_rfl) (by kernel_rfl) (fun _ _ _ h=>h) (yieldsIf_load_mid (by rfl) _ _ rfl _ _ rfl (sp.map (Value.int .u8)) _ ?hS5301 Tryd.underlying23 rfl (by rw [List.length_map];exact bU Aj.out)) (by assumption) ?Uv
 case hS5301=>(intro w hSw;(try dsimp only at hSw);exact aM (hSw.blk (HI3.out.get 3 rfl) (HI3.out.ne 3 1 rfl rfl (by decide))) 0 _ (by rw [List.length_map];exact au _ _))
 (try simp only [Act.put,sA,sZ,sS])
 refine wpAnyH_ready (rs:=[0]) (by kernel_rfl) (by simp) ?_
 refine AllReadyH.cons (o:=(⟨some 10,_,_,_,_,none⟩:Oper)) rfl (fun K hK=>?_) AllReadyH.nil
 go_simp
 go_at_call 51
 refine (Af _ (bA HTX.out dX.out.below) (bA HTY.out dX.out.below)).mono ?_
 rintro e w5302 ⟨z5302,rfl,Yo,KR⟩
 have HZ5302:=Lib.hid Yo
 have HL5302:=Lib.hid Yo.len
 clear Yo
 have Ns:=Lib.hid (dX.out.kept KR)
 have MX:=Lib.hid (dU.out.trans (Kept.of_below KR))
 clear KR
 (try dsimp only)
 clear dX
 clear dU
 clear hHeld
 refine hK.out _ _ (MX.out) (fun hHeld=>?_)
 clear hK K
 (try simp only [Act.put,sA,sZ,sS])
 refine wpAnyH_ready (rs:=[2]) (by kernel_rfl) (by simp) ?_
 refine AllReadyH.cons (o:=(⟨some 12,_,_,_,_,none⟩:Oper)) rfl (fun K hK=>?_) AllReadyH.nil
 go_simp
 go_at_call 50
 refine (IG.out _ _ _ HZ5302.out (bA HTD.out Ns.out.below)).mono ?_
 rintro e w5303 ⟨z5303,rfl,Ym,KQ⟩
 have HZ5303:=Lib.hid Ym
 have HL5303:=Lib.hid Ym.len
 clear Ym
 have HB5303:=Lib.hid (Ns.out.kept KQ)
 have MW:=Lib.hid (MX.out.trans (Kept.of_below KQ))
 clear KQ
 (try dsimp only)
 clear Ns
 clear MX
 clear hHeld
 refine hK.out _ _ (MW.out) (fun hHeld=>?_)
 clear hK K
 (try simp only [Act.put,sA,sZ,sS])
 refine wpAnyH_ready (rs:=[3]) (by kernel_rfl) (by simp) ?_
 refine AllReadyH.cons (o:=(⟨some 13,_,_,_,_,none⟩:Oper)) rfl (fun K hK=>?_) AllReadyH.nil
 go_simp
 go_at_call 49
 refine (HW1.out _ _ HZ5303.out).mono ?_
 rintro e w5304 ⟨rfl,KP⟩
 have Nr:=Lib.hid (HB5303.out.kept KP)
 have MU:=Lib.hid (MW.out.trans (Kept.of_below KP))
 clear KP
 (try dsimp only)
 clear HB5303
 clear MW
 clear hHeld
 refine hK.out _ _ (MU.out) (fun hHeld=>?_)
 clear hK K
 (try simp only [Act.put,sA,sZ,sS])
 refine wpAnyH_ready (rs:=[4]) (by kernel_rfl) (by simp) ?_
 refine AllReadyH.cons (o:=(⟨none,_,_,_,_,none⟩:Oper)) rfl (fun K hK=>?_) AllReadyH.nil
 refine aD rfl 23 (.tmp 2) (.tmp 13) rfl (w.heap.size+1) _ _ _ (Nr.out.get 1 rfl) rfl rfl (ay _ _ oH.out cB.out) (bE oH.out) (av _ _) ?_
 intro w5305 WZ Kr hz5305
 have HB5305:=Lib.hid (Nr.out.put 1 rfl Kr WZ)
 have HK5305:=Lib.hid (MU.out.trans Kr)
 clear WZ Kr hz5305
 clear Nr
 clear MU
 clear hHeld
 refine hK.out _ _ (HK5305.out) (fun hHeld=>?_)
 clear hK K
 (try simp only [Act.put])
 refine wpAnyH_done (by kernel_rfl) ?_ _
 go_wp2_with fail
 (try simp only [Exit.then])
 refine bodyPost_ret (results_cell_row rfl _ _ (w.heap.size+1) 23 _ (0,0) _ rfl (HB5305.out.get 1 rfl) Tryd.underlying23 rfl (bE oH.out)) rfl ?_
 exact ⟨rfl,HB5305.out.below⟩
end Go.Proofs.YthdgbgleklkaiaaDoor.Rd
namespace Go.Proofs.YthdgbgleklkaiaaDoor.Ce
open Go.RowKit Lm Fp Cu Sl Sc Rd
structure TabP (w:World):Prop where
 d:vG w
 x:Sg w
 y:Sd w
 k:Hb.eB w
theorem TabP.below {u u':World} (h:TabP u) (b:Below u.heap.size u u'):TabP u':=⟨bA h.d b,bA h.x b,bA h.y b,ig h.k b⟩
end Go.Proofs.YthdgbgleklkaiaaDoor.Ce
namespace Go.Proofs.YthdgbgleklkaiaaDoor.Ce
open Go.RowKit Lm Fp Cu Sl Sc
structure TabV (w:World):Prop extends TabP w where
 i:Rd.Si w
 q:Rd.mP w
theorem yF {a b:World} (h:Rd.mP a) (k:Below a.heap.size a b):Rd.mP b:=fun t ht=>(Kept.of_below k (T:=fun _=>False)).lM (h t ht) id
theorem TabV.below {u u':World} (h:TabV u) (b:Below u.heap.size u u'):TabV u':=⟨h.toTabP.below b,Rd.bA h.i b,yF h.q b⟩
end Go.Proofs.YthdgbgleklkaiaaDoor.Ce
