/- The document's Sign: The document's Stop. Condition: as each theorem says. -/

import Derived.Test.YthdgbgleklkaiaaDoorQb31
open Go.Lib renaming hid→acD
open List renaming append_nil→acE,nil_append→acF,append_assoc→acG,cons_append→acH,length_append→acI,map_cons→acL,map_nil→acM,length_drop→acR,not_mem_nil→acT,replicate→acU,length_map→acV
open Nat renaming mod_lt→acJ,le_refl→acK,zero_add→acN,reduceAdd→acO,lt_trans→acP
open Option renaming isSome_none→acQ
set_option linter.unusedSimpArgs false
set_option linter.unusedVariables false
set_option maxRecDepth 100000
set_option maxHeartbeats 16000000
namespace Go.Proofs.YthdgbgleklkaiaaDoor.Rd
open Go.RowKit Lm Fp Cu Sc
theorem Dq {bs:List Int} (seed:Nat) (sb:Option Addr) (nb cb:Nat) (w:World) (hB:Src w sb nb bs) (hcb:nb≤cb) (bB:bytes bs) (hN:nb≤1000000000)
  (SS:vW w) (hTX:Ub w) (hTY:Ua w) (hTQ:ni w) (hTK:Hb.eP w) :
  Calls Tryd.prog 46 #[.agg (arr .u8 (n32 seed)), .slice sb nb cb] w fun e w'=>e = .returned (.agg (arr .u8 (kJ seed bs)))∧Below w.heap.size w w':=by
 have hsrl:(jQ seed).length=32:=by unfold jQ;rw [acR,Hb.dS]
 have hsrb:bytes (jQ seed):=Na (qc (n32 seed)) 32
 have hpa:=fun (u:World) (h:Hb.eP u)=>zM seed u h
 have hpu:=fun (u:World) (h1:vW u) (h2:Ub u) (h3:Ua u) (h4:Hb.eP u)=>wY seed u h1 h2 h3 h4
 have hw2:∀ (g:Nat) (u:World),oq u (some ⟨g,0,none⟩) 2 [jQ seed,bs]→Hb.eP u→ni u→Calls Tryd.prog 61 #[.slice (some ⟨g,0,none⟩) 2 2] u fun e w'=>e = .returned (.agg (arr .u8 (n32 (wide (jQ seed ++ bs)))))∧Below u.heap.size u w':=by
  intro g u h1 h2 h3
  have:=G9 (some ⟨g,0,none⟩) 2 2 [jQ seed,bs] u h1 (by intro l h;simp only [List.mem_cons,acT,or_false] at h;rcases h with rfl|rfl;exact hsrb;exact bB) (by rw [show ([jQ seed,bs]:List (List Int)).flatten=jQ seed ++ bs by simp,acI,hsrl,hB.len];omega) (by decide) h2 h3
  rwa [show ([jQ seed,bs]:List (List Int)).flatten=jQ seed ++ bs by simp] at this
 have hw3:∀ (r k g:Nat) (u:World),oq u (some ⟨g,0,none⟩) 3 [n32 r,n32 k,bs]→Hb.eP u→ni u→Calls Tryd.prog 61 #[.slice (some ⟨g,0,none⟩) 3 3] u fun e w'=>e = .returned (.agg (arr .u8 (n32 (wide (n32 r ++ (n32 k ++ bs))))))∧Below u.heap.size u w':=by
  intro r k g u h1 h2 h3
  have:=G9 (some ⟨g,0,none⟩) 3 3 [n32 r,n32 k,bs] u h1 (by intro l h;simp only [List.mem_cons,acT,or_false] at h;rcases h with rfl|rfl|rfl;exact eY _;exact eY _;exact bB) (by rw [show ([n32 r,n32 k,bs]:List (List Int)).flatten=n32 r ++ (n32 k ++ bs) by simp,acI,acI,bX,bX,hB.len];omega) (by decide) h2 h3
  rwa [show ([n32 r,n32 k,bs]:List (List Int)).flatten=n32 r ++ (n32 k ++ bs) by simp] at this
 have hes:kJ seed bs=n32 (vN seed bs) ++ n32 (MO seed bs):=rfl
 obtain ⟨RR,hRR⟩:∃ r,r=wide (jQ seed ++ bs):=⟨_,rfl⟩
 have hRL:RR < 256 ^ 32:=by rw [hRR];exact acP (acJ _ PL) Kt
 have hR:vN seed bs=lK (ku base RR 256):=by rw [hRR];rfl
 have hS:MO seed bs=(RR+wide (n32 (vN seed bs) ++ (n32 (xY seed) ++ bs)) * jR seed % q) % q:=by rw [hRR];rfl
 have uG:=fun (ps:List Int) (P:Pt) (u:World) (h1:mG ps P) (h2:vW u)=>Iw ps P RR u h1 h2
 have hw1:=fun (ps:List Int) (u:World) (h:mG ps (ku base RR 256))=>wT ps _ u h
 rw [← hR] at hw1
 have hspl:jR seed < 256 ^ 32:=by
  have:=acJ (fD ((Hb.hash (n32 seed)).take 32) / 8 * 8) (show 2 ^ 254 > 0 by decide)
  show _ / 8 * 8 % 2 ^ 254+2 ^ 254 < 256 ^ 32
  rw [show (256:Nat) ^ 32=2 ^ 256 by decide]
  omega
 obtain ⟨R,hRe⟩:∃ r,r=vN seed bs:=⟨_,rfl⟩
 obtain ⟨PK,hPK⟩:∃ r,r=xY seed:=⟨_,rfl⟩
 obtain ⟨SP,hSP⟩:∃ x,x=jR seed:=⟨_,rfl⟩
 obtain ⟨sr,hsr⟩:∃ x,x=jQ seed:=⟨_,rfl⟩
 rw [← hRe,← hPK,← hSP] at hS
 rw [hS,← hRe] at hes
 rw [← hRe] at hw1
 rw [← hRR,← hsr] at hw2
 rw [← hsr] at hsrl
 rw [← hsr,← hSP] at hpa
 rw [← hSP] at hspl
 rw [← hPK] at hpu
 have hw3':=hw3 R PK
 obtain ⟨KK,hKK⟩:∃ k,k=wide (n32 R ++ (n32 PK ++ bs)):=⟨_,rfl⟩
 rw [← hKK] at hw3' hes
 have hKL:KK < 256 ^ 32:=by rw [hKK];exact acP (acJ _ PL) Kt
 have hmul:=fun (u:World) (h:ni u)=>WA KK SP u hKL hspl h
 have hadd:=fun (u:World) (h:ni u)=>abZ RR (KK * SP % q) u hRL (acP (acJ _ PL) Kt) h
 obtain ⟨pl,hpl⟩:∃ x,x=n32 R:=⟨_,rfl⟩
 obtain ⟨pk,hpk⟩:∃ x,x=n32 PK:=⟨_,rfl⟩
 obtain ⟨sp,hsp⟩:∃ x,x=n32 SP:=⟨_,rfl⟩
 obtain ⟨rl,hrl⟩:∃ x,x=n32 RR:=⟨_,rfl⟩
 obtain ⟨kl,hkl⟩:∃ x,x=n32 KK:=⟨_,rfl⟩
 obtain ⟨ml,hml⟩:∃ x,x=n32 (KK * SP % q):=⟨_,rfl⟩
 obtain ⟨sl,hsl⟩:∃ x,x=n32 ((RR+KK * SP % q) % q):=⟨_,rfl⟩
 obtain ⟨ks,hks⟩:∃ x,x=n32 seed:=⟨_,rfl⟩
 rw [show aW (bD 256 32 R)=n32 R from rfl,← hpl] at hw1
 rw [show aW (bD 256 32 RR)=n32 RR from rfl,← hrl] at uG
 rw [show aW (bD 256 32 KK)=n32 KK from rfl,show aW (bD 256 32 SP)=n32 SP from rfl,show aW (bD 256 32 (KK * SP % q))=n32 (KK * SP % q) from rfl,← hkl,← hsp,← hml] at hmul
 rw [show aW (bD 256 32 RR)=n32 RR from rfl,show aW (bD 256 32 (KK * SP % q))=n32 (KK * SP % q) from rfl,show aW (bD 256 32 ((RR+KK * SP % q) % q))=n32 ((RR+KK * SP % q) % q) from rfl,← hrl,← hml,← hsl] at hadd
 rw [← hsl,← hpl] at hes
 rw [← hrl] at hw2
 rw [← hpl,← hpk,← hkl] at hw3'
 rw [← hsp,← hks] at hpa
 rw [← hpk,← hks] at hpu
 rw [← hks]
 have wH:Hid (pl.length=32):=acD (by rw [hpl];exact bX _)
 have HPKL:Hid (pk.length=32):=acD (by rw [hpk];exact bX _)
 have Bj:Hid (sp.length=32):=acD (by rw [hsp];exact bX _)
 have HRLL:Hid (rl.length=32):=acD (by rw [hrl];exact bX _)
 have HKLL:Hid (kl.length=32):=acD (by rw [hkl];exact bX _)
 have HMLL:Hid (ml.length=32):=acD (by rw [hml];exact bX _)
 have HSLL:Hid (sl.length=32):=acD (by rw [hsl];exact bX _)
 have HKSL:Hid (ks.length=32):=acD (by rw [hks];exact bX _)
 have hes':=hes
 obtain ⟨res,hres⟩:∃ r,r=kJ seed bs:=⟨_,rfl⟩
 rw [← hres] at hes' ⊢
 have QJ:Hid (res.length=64):=acD (by rw [hes',acI,wH.out,HSLL.out])
 obtain ⟨zn,hzn⟩:∃ zs:List Int,zs=acU 32 0:=⟨_,rfl⟩
 have dA:Hid (∀ w,(zeroValue 23).run Tryd.prog w = .ok (.agg (arr .u8 zn)) w):=acD (by intro w;rw [hzn];exact zero_num w)
 have cK:Hid (zn.length=32):=acD (by rw [hzn];rfl)
 obtain ⟨gy,pW⟩:∃ zs:List Int,zs=acU 64 0:=⟨_,rfl⟩
 have wC:Hid (∀ w,(zeroValue 26).run Tryd.prog w = .ok (.agg (arr .u8 gy)) w):=acD (by intro w;rw [pW];exact Sl.tT w)
 have tJ:Hid (gy.length=64):=acD (by rw [pW];rfl)
 obtain ⟨m1,hm1⟩:∃ x,x=pl ++ gy.drop 32:=⟨_,rfl⟩
 have Cz:Hid (gy.take 0 ++ pl ++ gy.drop (0+32)=m1):=acD (by rw [hm1];rfl)
 have HM1L:Hid (m1.length=64):=acD (by rw [hm1,acI,wH.out,acR,tJ.out])
 have GN:Hid (m1.take 32 ++ sl ++ m1.drop (32+32)=res):=acD (by rw [hes',List.drop_of_length_le (by rw [HM1L.out];decide),acE,hm1,List.take_append_of_le_length (by rw [wH.out];decide),List.take_of_length_le (by rw [wH.out];decide)])
 have HSR1:Hid (∀ (u:World) (g:Nat),u.heap[g]? = some (.cells (arr .u8 pl) 23 (0,0))→Src u (some ⟨g,0,none⟩) 32 pl):=acD (fun u g h=>Sl.bO h 32 wH.out)
 have HSR2:Hid (∀ (u:World) (g:Nat),u.heap[g]? = some (.cells (arr .u8 sl) 23 (0,0))→Src u (some ⟨g,0,none⟩) 32 sl):=acD (fun u g h=>Sl.bO h 32 HSLL.out)
 have HSRL:=acD hsrl
 have HPA:=acD hpa
 have HPU:=acD hpu
 have HWD2:=acD hw2
 have HWD3:=acD hw3'
 have Jz:=acD uG
 have HW1:=acD hw1
 have HMUL:=acD hmul
 have HADD:=acD hadd
 have QI:=acD hB
 have HCB:=acD hcb
 have HTD:=acD SS
 have HTX:=acD hTX
 have HTY:=acD hTY
 have HTQ:=acD hTQ
 have wG:=acD hTK
 have HI0:=acD (bM.two w (arr .u8 ks) (arr .u8 gy) 23 26)
 clear hzn pW hm1 hes' hres hes hks hsl hml hkl hrl hsp hpk hpl hadd hmul hKL hKK hw3' hw3 hsr hSP hPK hRe hspl hw1 uG hS hR hRL hRR hw2 hpu hpa hsrb hsrl hB hcb bB hN SS hTX hTY hTQ hTK
 go_enter Tryd.func46, Tryd.ntmps46
 go_upto_region 1 with (first|((with_reducible refine aS 4 ?_);refine aj rfl 26 rfl _ (wC.out _) ?_))
 (try simp only [World.size_alloc,Act.put,sA,sZ,sS])
 generalize ((w.alloc (.cells (arr .u8 ks) 23)).alloc (.cells (arr .u8 gy) 26))=wb at HI0 ⊢
 go_upto_region 2 with (first|((with_reducible refine aS 14 ?_);refine lL rfl rfl (HI0.out.get 0 rfl) rfl (au _ _) Tryd.underlying23 rfl (bU HKSL.out) ?_)|((with_reducible show Calls _ 48 _ _ _);go_at_call 48; refine (HPA.out _ (iB wG.out HI0.out.below)).mono ?_;rintro e w1 ⟨gp,cp,D6,rfl,⟨h2,h3,h4,h5⟩,hb1⟩;have HI1:=acD (Sl.bM.add HI0.out hb1 h2 h3);have HCP:=acD h4;have HCU:=acD h5;clear hb1 h2 h3 h4 h5)|((with_reducible refine aS 5 ?_);refine lA rfl rfl (dA.out _) HI1 ?_;intro g5 w2 HI2)|((with_reducible refine aT 5 ?_);refine lS rfl rfl HI2 3 rfl rfl rfl (ay _ _ Bj.out cK.out) (bE Bj.out) (av _ _) ?_;intro w3 HI3))
 (try simp only [World.size_alloc,Act.put,sA,sZ,sS])
 have HSL2:Hid (∀ u:World,Src u (some ⟨gp,0,none⟩) 32 sr→Src u sb nb bs→oq (u.alloc (.cells #[.slice (some ⟨gp,0,none⟩) 32 cp, .slice sb nb cb] 24)) (some ⟨u.heap.size,0,none⟩) 2 [sr,bs]):=acD (fun u h1 h2=>Sl.src_two (aG u _) (h1.below ((Below.refl _ u).alloc (acK _) _)) (h2.below ((Below.refl _ u).alloc (acK _) _)) HCP.out HCB.out)
 have HSRC:Hid (Src w3 (some ⟨gp,0,none⟩) 32 sr):=acD (nL (HI3.out.get 2 rfl) (by rw [HSRL.out];exact HCU.out) HSRL.out)
 go_upto_region 3 with (first|((with_reducible show Calls _ 61 _ _ _);go_at_call 61; refine (HWD2.out _ _ (HSL2.out _ HSRC.out (QI.out.below HI3.out.below)) (iB wG.out (HI3.out.below.alloc HI3.out.below.size _)) (HTQ.out.below (HI3.out.below.alloc HI3.out.below.size _))).mono ?_;rintro e w4 ⟨rfl,hb4⟩;have HI4:=acD (HI3.out.kept (Sl.TV hb4));clear hb4)|((with_reducible refine aS 7 ?_);refine lA rfl rfl (dA.out _) HI4 ?_;intro g7 w5 HI5)|((with_reducible refine aT 7 ?_);refine lS rfl rfl HI5 4 rfl rfl rfl (ay _ _ HRLL.out cK.out) (bE HRLL.out) (av _ _) ?_;intro w6 UE))
 (try simp only [World.size_alloc,Act.put,sA,sZ,sS])
 go_cut [8] (fun u8 wx=>∃ gg,u8 = .pointer (some ⟨gg,0,none⟩)∧bM w wx [(w.heap.size,arr .u8 ks, 23),(w.heap.size+1,arr .u8 gy, 26),(gp,D6, 5),(g5,arr .u8 sp, 23),(g7,arr .u8 rl, 23),(gg,arr .u8 pl, 23)])
 case first =>
  have dZ:=acD ((Kept.refl (fun _=>False) w6).drew)
  have eB:=acD (UE.out.drew)
  refine wp_region_held_drew (S:=(fun w'=>Kept (fun _=>False) w6 w')) (by kernel_rfl) (dZ.out) (fun hHeld=>?_)
  generalize w6.drew=wd at dZ eB hHeld ⊢
  refine' wpAnyH_take (i:=1) (oi:=(⟨some 23,_,_,_,_,none⟩:Oper)) (v:=_) rfl (by kernel_rfl) (by kernel_rfl) (by kernel_rfl) (fun _ _ _ h=>h) (yieldsIf_load_mid (by rfl) _ _ rfl _ _ rfl (rl.map (Value.int .u8)) _ ?hS5501 Tryd.underlying23 rfl (by rw [acV];exact bU HRLL.out)) (by assumption) ?rest5501
  case hS5501=>(intro w hSw;(try dsimp only at hSw);exact aN (hSw.blk (UE.out.get 4 rfl) (fun e=>e.elim)) 0 _ (by rw [acV];exact au _ _))
  (try simp only [Act.put,sA,sZ,sS])
  refine wpAnyH_ready (rs:=[0,4]) (by kernel_rfl) (by simp) ?_
  refine AllReadyH.cons (o:=(⟨some 22,_,_,_,_,none⟩:Oper)) rfl (fun K hK=>?_) ?_
  ·go_simp
   go_at_call 51
   refine (Bd _ (bC HTX.out eB.out.below) (bC HTY.out eB.out.below)).mono ?_
   rintro e UW ⟨z5502,rfl,ZM,LW⟩
   have HZ5502:=acD ZM
   have HL5502:=acD ZM.len
   clear ZM
   have BJ:=acD (eB.out.kept LW)
   have wO:=acD (dZ.out.trans (Kept.of_below LW))
   clear LW
   (try dsimp only)
   clear eB
   clear dZ
   clear hHeld
   refine hK.out _ _ (wO.out) (fun hHeld=>?_)
   clear hK K
   (try simp only [Act.put,sA,sZ,sS])
   refine wpAnyH_ready (rs:=[2,4]) (by kernel_rfl) (by simp) ?_
   refine AllReadyH.cons (o:=(⟨some 24,_,_,_,_,none⟩:Oper)) rfl (fun K hK=>?_) ?_
   ·go_simp
    go_at_call 50
    refine (Jz.out _ _ _ HZ5502.out (bC HTD.out BJ.out.below)).mono ?_
    rintro e UU ⟨z5503,rfl,ZL,LV⟩
    have HZ5503:=acD ZL
    have HL5503:=acD ZL.len
    clear ZL
    have Gp:=acD (BJ.out.kept LV)
    have wN:=acD (wO.out.trans (Kept.of_below LV))
    clear LV
    (try dsimp only)
    clear BJ
    clear wO
    clear hHeld
    refine hK.out _ _ (wN.out) (fun hHeld=>?_)
    clear hK K
    (try simp only [Act.put,sA,sZ,sS])
    refine wpAnyH_ready (rs:=[3,4]) (by kernel_rfl) (by simp) ?_
    refine AllReadyH.cons (o:=(⟨some 25,_,_,_,_,none⟩:Oper)) rfl (fun K hK=>?_) ?_
    ·go_simp
     go_at_call 49
     refine (HW1.out _ _ HZ5503.out).mono ?_
     rintro e UR ⟨rfl,LU⟩
     have HB5504:=acD (Gp.out.kept LU)
     have Gc:=acD (wN.out.trans (Kept.of_below LU))
     clear LU
     (try dsimp only)
     clear Gp
     clear wN
     clear hHeld
     refine hK.out _ _ (Gc.out) (fun hHeld=>?_)
     clear hK K
     (try simp only [Act.put,sA,sZ,sS])
     refine wpAnyH_ready (rs:=[4]) (by kernel_rfl) (by simp) ?_
     refine AllReadyH.cons (o:=(⟨some 8,_,_,_,_,none⟩:Oper)) rfl (fun K hK=>?_) AllReadyH.nil
     refine bg rfl 23 rfl _ (dA.out _) ?_
     have BI:=acD (HB5504.out.alloc (arr .u8 zn) 23)
     have Gb:=acD (Gc.out.alloc (.cells (arr .u8 zn) 23))
     have HN5505:=acD (show w6.heap.size≤(UR).heap.size from Gc.out.size)
     generalize (UR).heap.size=g5505 at BI HN5505 ⊢
     generalize (UR).alloc (.cells (arr .u8 zn) 23)=w5505 at BI Gb ⊢
     clear HB5504
     clear Gc
     clear hHeld
     refine hK.out _ _ (Gb.out) (fun hHeld=>?_)
     clear hK K
     (try simp only [Act.put,sA,sZ,sS])
     refine wpAnyH_ready (rs:=[5]) (by kernel_rfl) (by simp) ?_
     refine AllReadyH.cons (o:=(⟨none,_,_,_,_,none⟩:Oper)) rfl (fun K hK=>?_) AllReadyH.nil
     refine aH rfl 23 (.tmp 8) (.tmp 25) rfl (g5505) _ _ _ (BI.out.get 5 rfl) rfl rfl (ay _ _ wH.out cK.out) (bE wH.out) (av _ _) ?_
     intro w5506 YE Ll hz5506
     have HB5506:=acD (BI.out.put 5 rfl Ll YE)
     have HK5506:=acD (Gb.out.cO Ll (fun i hi e=>absurd hi (by rw [e];exact Nat.not_lt.2 HN5505.out)))
     clear YE Ll hz5506
     clear BI
     clear Gb
     clear hHeld
     refine hK.out _ _ (HK5506.out) (fun hHeld=>?_)
     clear hK K
     (try simp only [Act.put])
     refine wpAnyH_done (by kernel_rfl) ?_ _
     go_wp2_with fail
     go_meet
     exact ⟨_,rfl,HB5506.out⟩
    refine AllReadyH.cons (o:=(⟨some 8,_,_,_,_,none⟩:Oper)) rfl (fun K hK=>?_) ?_
    ·refine bg rfl 23 rfl _ (dA.out _) ?_
     have Gn:=acD (Gp.out.alloc (arr .u8 zn) 23)
     have Ga:=acD (wN.out.alloc (.cells (arr .u8 zn) 23))
     have HN5507:=acD (show w6.heap.size≤(UU).heap.size from wN.out.size)
     generalize (UU).heap.size=g5507 at Gn HN5507 ⊢
     generalize (UU).alloc (.cells (arr .u8 zn) 23)=w5507 at Gn Ga ⊢
     clear Gp
     clear wN
     clear hHeld
     refine hK.out _ _ (Ga.out) (fun hHeld=>?_)
     clear hK K
     (try simp only [Act.put,sA,sZ,sS])
     refine wpAnyH_ready (rs:=[3]) (by kernel_rfl) (by simp) ?_
     refine AllReadyH.cons (o:=(⟨some 25,_,_,_,_,none⟩:Oper)) rfl (fun K hK=>?_) AllReadyH.nil
     go_simp
     go_at_call 49
     refine (HW1.out _ _ HZ5503.out).mono ?_
     rintro e w5508 ⟨rfl,LQ⟩
     have Ol:=acD (Gn.out.kept LQ)
     have NN:=acD (Ga.out.trans (Kept.of_below LQ))
     clear LQ
     (try dsimp only)
     clear Gn
     clear Ga
     clear hHeld
     refine hK.out _ _ (NN.out) (fun hHeld=>?_)
     clear hK K
     (try simp only [Act.put,sA,sZ,sS])
     refine wpAnyH_ready (rs:=[5]) (by kernel_rfl) (by simp) ?_
     refine AllReadyH.cons (o:=(⟨none,_,_,_,_,none⟩:Oper)) rfl (fun K hK=>?_) AllReadyH.nil
     refine aH rfl 23 (.tmp 8) (.tmp 25) rfl (g5507) _ _ _ (Ol.out.get 5 rfl) rfl rfl (ay _ _ wH.out cK.out) (bE wH.out) (av _ _) ?_
     intro w5509 YD Lj hz5509
     have HB5509:=acD (Ol.out.put 5 rfl Lj YD)
     have HK5509:=acD (NN.out.cO Lj (fun i hi e=>absurd hi (by rw [e];exact Nat.not_lt.2 HN5507.out)))
     clear YD Lj hz5509
     clear Ol
     clear NN
     clear hHeld
     refine hK.out _ _ (HK5509.out) (fun hHeld=>?_)
     clear hK K
     (try simp only [Act.put])
     refine wpAnyH_done (by kernel_rfl) ?_ _
     go_wp2_with fail
     go_meet
     exact ⟨_,rfl,HB5509.out⟩
    exact AllReadyH.nil
   refine AllReadyH.cons (o:=(⟨some 8,_,_,_,_,none⟩:Oper)) rfl (fun K hK=>?_) ?_
   ·refine bg rfl 23 rfl _ (dA.out _) ?_
    have BH:=acD (BJ.out.alloc (arr .u8 zn) 23)
    have F9:=acD (wO.out.alloc (.cells (arr .u8 zn) 23))
    have HN5510:=acD (show w6.heap.size≤(UW).heap.size from wO.out.size)
    generalize (UW).heap.size=g5510 at BH HN5510 ⊢
    generalize (UW).alloc (.cells (arr .u8 zn) 23)=w5510 at BH F9 ⊢
    clear BJ
    clear wO
    clear hHeld
    refine hK.out _ _ (F9.out) (fun hHeld=>?_)
    clear hK K
    (try simp only [Act.put,sA,sZ,sS])
    refine wpAnyH_ready (rs:=[2]) (by kernel_rfl) (by simp) ?_
    refine AllReadyH.cons (o:=(⟨some 24,_,_,_,_,none⟩:Oper)) rfl (fun K hK=>?_) AllReadyH.nil
    go_simp
    go_at_call 50
    refine (Jz.out _ _ _ HZ5502.out (bC HTD.out BH.out.below)).mono ?_
    rintro e w5511 ⟨z5511,rfl,ZK,LP⟩
    have HZ5511:=acD ZK
    have HL5511:=acD ZK.len
    clear ZK
    have HB5511:=acD (BH.out.kept LP)
    have NK:=acD (F9.out.trans (Kept.of_below LP))
    clear LP
    (try dsimp only)
    clear BH
    clear F9
    clear hHeld
    refine hK.out _ _ (NK.out) (fun hHeld=>?_)
    clear hK K
    (try simp only [Act.put,sA,sZ,sS])
    refine wpAnyH_ready (rs:=[3]) (by kernel_rfl) (by simp) ?_
    refine AllReadyH.cons (o:=(⟨some 25,_,_,_,_,none⟩:Oper)) rfl (fun K hK=>?_) AllReadyH.nil
    go_simp
    go_at_call 49
    refine (HW1.out _ _ HZ5511.out).mono ?_
    rintro e w5512 ⟨rfl,LM⟩
    have Oj:=acD (HB5511.out.kept LM)
    have NJ:=acD (NK.out.trans (Kept.of_below LM))
    clear LM
    (try dsimp only)
    clear HB5511
    clear NK
    clear hHeld
    refine hK.out _ _ (NJ.out) (fun hHeld=>?_)
    clear hK K
    (try simp only [Act.put,sA,sZ,sS])
    refine wpAnyH_ready (rs:=[5]) (by kernel_rfl) (by simp) ?_
    refine AllReadyH.cons (o:=(⟨none,_,_,_,_,none⟩:Oper)) rfl (fun K hK=>?_) AllReadyH.nil
    refine aH rfl 23 (.tmp 8) (.tmp 25) rfl (g5510) _ _ _ (Oj.out.get 5 rfl) rfl rfl (ay _ _ wH.out cK.out) (bE wH.out) (av _ _) ?_
    intro w5513 YC Li hz5513
    have HB5513:=acD (Oj.out.put 5 rfl Li YC)
    have HK5513:=acD (NJ.out.cO Li (fun i hi e=>absurd hi (by rw [e];exact Nat.not_lt.2 HN5510.out)))
    clear YC Li hz5513
    clear Oj
    clear NJ
    clear hHeld
    refine hK.out _ _ (HK5513.out) (fun hHeld=>?_)
    clear hK K
    (try simp only [Act.put])
    refine wpAnyH_done (by kernel_rfl) ?_ _
    go_wp2_with fail
    go_meet
    exact ⟨_,rfl,HB5513.out⟩
   exact AllReadyH.nil
  refine AllReadyH.cons (o:=(⟨some 8,_,_,_,_,none⟩:Oper)) rfl (fun K hK=>?_) ?_
  ·refine bg rfl 23 rfl _ (dA.out _) ?_
   have wR:=acD (eB.out.alloc (arr .u8 zn) 23)
   have F8:=acD (dZ.out.alloc (.cells (arr .u8 zn) 23))
   have HN5514:=acD (show w6.heap.size≤(wd).heap.size from dZ.out.size)
   generalize (wd).heap.size=g5514 at wR HN5514 ⊢
   generalize (wd).alloc (.cells (arr .u8 zn) 23)=w5514 at wR F8 ⊢
   clear eB
   clear dZ
   clear hHeld
   refine hK.out _ _ (F8.out) (fun hHeld=>?_)
   clear hK K
   (try simp only [Act.put,sA,sZ,sS])
   refine wpAnyH_ready (rs:=[0]) (by kernel_rfl) (by simp) ?_
   refine AllReadyH.cons (o:=(⟨some 22,_,_,_,_,none⟩:Oper)) rfl (fun K hK=>?_) AllReadyH.nil
   go_simp
   go_at_call 51
   refine (Bd _ (bC HTX.out wR.out.below) (bC HTY.out wR.out.below)).mono ?_
   rintro e w5515 ⟨z5515,rfl,ZJ,LJ⟩
   have HZ5515:=acD ZJ
   have HL5515:=acD ZJ.len
   clear ZJ
   have Oi:=acD (wR.out.kept LJ)
   have NI:=acD (F8.out.trans (Kept.of_below LJ))
   clear LJ
   (try dsimp only)
   clear wR
   clear F8
   clear hHeld
   refine hK.out _ _ (NI.out) (fun hHeld=>?_)
   clear hK K
   (try simp only [Act.put,sA,sZ,sS])
   refine wpAnyH_ready (rs:=[2]) (by kernel_rfl) (by simp) ?_
   refine AllReadyH.cons (o:=(⟨some 24,_,_,_,_,none⟩:Oper)) rfl (fun K hK=>?_) AllReadyH.nil
   go_simp
   go_at_call 50
   refine (Jz.out _ _ _ HZ5515.out (bC HTD.out Oi.out.below)).mono ?_
   rintro e w5516 ⟨z5516,rfl,ZI,LH⟩
   have HZ5516:=acD ZI
   have HL5516:=acD ZI.len
   clear ZI
   have HB5516:=acD (Oi.out.kept LH)
   have NH:=acD (NI.out.trans (Kept.of_below LH))
   clear LH
   (try dsimp only)
   clear Oi
   clear NI
   clear hHeld
   refine hK.out _ _ (NH.out) (fun hHeld=>?_)
   clear hK K
   (try simp only [Act.put,sA,sZ,sS])
   refine wpAnyH_ready (rs:=[3]) (by kernel_rfl) (by simp) ?_
   refine AllReadyH.cons (o:=(⟨some 25,_,_,_,_,none⟩:Oper)) rfl (fun K hK=>?_) AllReadyH.nil
   go_simp
   go_at_call 49
   refine (HW1.out _ _ HZ5516.out).mono ?_
   rintro e w5517 ⟨rfl,LG⟩
   have Oh:=acD (HB5516.out.kept LG)
   have NG:=acD (NH.out.trans (Kept.of_below LG))
   clear LG
   (try dsimp only)
   clear HB5516
   clear NH
   clear hHeld
   refine hK.out _ _ (NG.out) (fun hHeld=>?_)
   clear hK K
   (try simp only [Act.put,sA,sZ,sS])
   refine wpAnyH_ready (rs:=[5]) (by kernel_rfl) (by simp) ?_
   refine AllReadyH.cons (o:=(⟨none,_,_,_,_,none⟩:Oper)) rfl (fun K hK=>?_) AllReadyH.nil
   refine aH rfl 23 (.tmp 8) (.tmp 25) rfl (g5514) _ _ _ (Oh.out.get 5 rfl) rfl rfl (ay _ _ wH.out cK.out) (bE wH.out) (av _ _) ?_
   intro w5518 YA Lh hz5518
   have HB5518:=acD (Oh.out.put 5 rfl Lh YA)
   have HK5518:=acD (NG.out.cO Lh (fun i hi e=>absurd hi (by rw [e];exact Nat.not_lt.2 HN5514.out)))
   clear YA Lh hz5518
   clear Oh
   clear NG
   clear hHeld
   refine hK.out _ _ (HK5518.out) (fun hHeld=>?_)
   clear hK K
   (try simp only [Act.put])
   refine wpAnyH_done (by kernel_rfl) ?_ _
   go_wp2_with fail
   go_meet
   exact ⟨_,rfl,HB5518.out⟩
  exact AllReadyH.nil
 case rest =>
 obtain ⟨wy,rfl⟩:∃ x:World,x=wc:=⟨_,rfl⟩
 obtain ⟨g8,rfl,hb1⟩:=hcut
 have HI8:=acD hb1
 clear hb1
 go_upto_region 5 with (first|((with_reducible refine aS 26 ?_);refine lL rfl rfl (HI8.out.get 0 rfl) rfl (au _ _) Tryd.underlying23 rfl (bU HKSL.out) ?_)|((with_reducible show Calls _ 34 _ _ _);go_at_call 34; refine lC (HPU.out _ (bC HTD.out HI8.out.below) (bC HTX.out HI8.out.below) (bC HTY.out HI8.out.below) (iB wG.out HI8.out.below)) HI8 ?_;intro w20 HI20)|((with_reducible refine aS 9 ?_);refine lA rfl rfl (dA.out _) HI20 ?_;intro g9 w21 HI21)|((with_reducible refine aT 9 ?_);refine lS rfl rfl HI21 6 rfl rfl rfl (ay _ _ HPKL.out cK.out) (bE HPKL.out) (av _ _) ?_;intro w22 HI22))
 (try simp only [World.size_alloc,Act.put,sA,sZ,sS])
 refine gQ (fun (fF:Fill) (uF:World)=>(∀ v,fF 0=some v→v = .slice (some ⟨g8,0,none⟩) 32 32∧True)∧(∀ v,fF 1=some v→v = .slice (some ⟨g9,0,none⟩) 32 32∧True)∧(∀ v,fF 2=some v→v = .slice sb nb cb∧True)∧(∀ v,fF 3=some v→∃ g:Nat,v = .slice (some ⟨g,0,none⟩) 3 3)∧(∀ v,fF 4=some v→v = .agg (arr .u8 kl)∧True)∧(∀ v,fF 5=some v→∃ g:Nat,v = .pointer (some ⟨g,0,none⟩))∧bM w uF ([(w.heap.size,arr .u8 ks, 23),(w.heap.size+1,arr .u8 gy, 26),(gp,D6, 5),(g5,arr .u8 sp, 23),(g7,arr .u8 rl, 23),(g8,arr .u8 pl, 23),(g9,arr .u8 pk, 23)] ++ (ent (fF 3) (#[.slice (some ⟨g8,0,none⟩) 32 32, .slice (some ⟨g9,0,none⟩) 32 32, .slice sb nb cb]) 24 ++ (ent (fF 5) ((if (fF 6).isSome=true then arr .u8 kl else arr .u8 zn)) 23)))) (by kernel_rfl) (by kernel_rfl) ?zt5 ?st5 ?et5
 case zt5=>exact ⟨fun _ h=>(by cases h),fun _ h=>(by cases h),fun _ h=>(by cases h),fun _ h=>(by cases h),fun _ h=>(by cases h),fun _ h=>(by cases h),HI22.out.drew⟩
 case st5 =>
  refine bH.cons (fun fF bF uF kF fJ jX mF cB fZ gN=>?_) ?_
  ·obtain ⟨j0,j1,j2,j3,j4,j5,hB⟩:=fJ
   have e8:bF.eval (.tmp 8) = .pointer (some ⟨g8,0,none⟩):=fZ.old' 8 (by kernel_rfl) rfl
   exact eF rfl (.slice (some ⟨g8,0,none⟩) 32 32) (by simp only [execOp,e8];first|rfl|(go_simp;done)) (gN _ _ ⟨fun _ h=>⟨sI h,trivial⟩,j1,j2,j3,j4,j5,hB⟩)
  refine bH.cons (fun fF bF uF kF fJ jX mF cB fZ gN=>?_) ?_
  ·obtain ⟨j0,j1,j2,j3,j4,j5,hB⟩:=fJ
   have e9:bF.eval (.tmp 9) = .pointer (some ⟨g9,0,none⟩):=fZ.old' 9 (by kernel_rfl) rfl
   exact eF rfl (.slice (some ⟨g9,0,none⟩) 32 32) (by simp only [execOp,e9];first|rfl|(go_simp;done)) (gN _ _ ⟨j0,fun _ h=>⟨sI h,trivial⟩,j2,j3,j4,j5,hB⟩)
  refine bH.cons (fun fF bF uF kF fJ jX mF cB fZ gN=>?_) ?_
  ·obtain ⟨j0,j1,j2,j3,j4,j5,hB⟩:=fJ
   have e1:bF.eval (.tmp 1) = .slice sb nb cb:=fZ.old' 1 (by kernel_rfl) rfl
   exact eF rfl (.slice sb nb cb) (by simp only [execOp,e1] <;> first|rfl|kernel_rfl|(go_simp;done)) (gN _ _ ⟨j0,j1,fun _ h=>⟨sI h,trivial⟩,j3,j4,j5,hB⟩)
  refine bH.cons (fun fF bF uF kF fJ jX mF cB fZ gN=>?_) ?_
  ·obtain ⟨j0,j1,j2,j3,j4,j5,hB⟩:=fJ
   obtain ⟨e28,p28⟩:=fZ.at cB 0 28 (by kernel_rfl) rfl j0
   obtain ⟨e29,p29⟩:=fZ.at cB 1 29 (by kernel_rfl) rfl j1
   obtain ⟨e30,p30⟩:=fZ.at cB 2 30 (by kernel_rfl) rfl j2
   have hB1:bM w (uF.alloc (.cells #[.slice (some ⟨g8,0,none⟩) 32 32, .slice (some ⟨g9,0,none⟩) 32 32, .slice sb nb cb] 24)) ([(w.heap.size,arr .u8 ks, 23),(w.heap.size+1,arr .u8 gy, 26),(gp,D6, 5),(g5,arr .u8 sp, 23),(g7,arr .u8 rl, 23),(g8,arr .u8 pl, 23),(g9,arr .u8 pk, 23)] ++ (ent ((some (.slice (some ⟨uF.heap.size,0,none⟩) 3 3):Option Value)) (#[.slice (some ⟨g8,0,none⟩) 32 32, .slice (some ⟨g9,0,none⟩) 32 32, .slice sb nb cb]) 24 ++ (ent (fF 5) ((if (fF 6).isSome=true then arr .u8 kl else arr .u8 zn)) 23))):=hB.ins (a:=[(w.heap.size,arr .u8 ks, 23),(w.heap.size+1,arr .u8 gy, 26),(gp,D6, 5),(g5,arr .u8 sp, 23),(g7,arr .u8 rl, 23),(g8,arr .u8 pl, 23),(g9,arr .u8 pk, 23)]) (b:=ent (fF 5) ((if (fF 6).isSome=true then arr .u8 kl else arr .u8 zn)) 23) _ _ (by rw [jX];simp only [uL,acF,acE,acG,acH]) (by simp only [Tt,acF,acE,acG,acH,acQ,Bool.false_eq_true,if_false])
   rw [if_pos (by simp [Region.wanted])]
   unfold Oper.wp
   simp only [execOp,List.map_toArray,acL,acM,e28,e29,e30]
   generalize hX:Sem.run Tryd.prog _ uF=X
   have hrun:X = .ok (.value (.slice (some ⟨uF.heap.size,0,none⟩) 3 3)) (uF.alloc (.cells #[.slice (some ⟨g8,0,none⟩) 32 32, .slice (some ⟨g9,0,none⟩) 32 32, .slice sb nb cb] 24)):=by
    rw [← hX]
    first|rfl|kernel_rfl
   rw [hrun]
   exact gN _ _ ⟨j0,j1,j2,fun _ h=>⟨_,sI h⟩,j4,j5,hB1⟩
  refine bH.cons (fun fF bF uF kF fJ jX mF cB fZ gN=>?_) ?_
  ·obtain ⟨j0,j1,j2,j3,j4,j5,hB⟩:=fJ
   have y3:=cB 3 (by kernel_rfl)
   obtain ⟨v3,s3⟩:=sE y3
   obtain ⟨lJ,rfl⟩:=j3 _ s3
   have e31:=fZ.val 3 31 rfl s3
   have hB':=hB
   rw [s3] at hB'
   have hsl:=Rx (hB'.get 7 rfl) (HSR1.out _ _ (hB'.get 5 rfl)) (Sl.bO (hB'.get 6 rfl) 32 HPKL.out) (QI.out.below hB.below) (acK _) (acK _) HCB.out
   refine fQ rfl 61 [Operand.tmp 31] _ [.slice (some ⟨lJ,0,none⟩) 3 3] rfl (by simp only [acL,acM,e31] <;> rfl) (fun _ _=>by kernel_rfl) ?_
   refine Calls.mono (HWD3.out _ _ hsl (iB wG.out hB.below) (HTQ.out.below hB.below)) ?_
   rintro e w1 ⟨rfl,hb⟩
   exact ⟨_,rfl,gN _ _ ⟨j0,j1,j2,j3,fun _ h=>⟨sI h,trivial⟩,j5,hB.kept hb⟩⟩
  refine bH.cons (fun fF bF uF kF fJ jX mF cB fZ gN=>?_) ?_
  ·obtain ⟨j0,j1,j2,j3,j4,j5,hB⟩:=fJ
   have n6:=mF.down 6 5 (by kernel_rfl) jX
   refine bg rfl 23 rfl _ (dA.out _) ?_
   have hB1:bM w (uF.alloc (.cells (arr .u8 zn) 23)) ([(w.heap.size,arr .u8 ks, 23),(w.heap.size+1,arr .u8 gy, 26),(gp,D6, 5),(g5,arr .u8 sp, 23),(g7,arr .u8 rl, 23),(g8,arr .u8 pl, 23),(g9,arr .u8 pk, 23)] ++ (ent (fF 3) (#[.slice (some ⟨g8,0,none⟩) 32 32, .slice (some ⟨g9,0,none⟩) 32 32, .slice sb nb cb]) 24 ++ (ent ((some (.pointer (some ⟨uF.heap.size,0,none⟩)):Option Value)) ((if (fF 6).isSome=true then arr .u8 kl else arr .u8 zn)) 23))):=hB.ins (a:=[(w.heap.size,arr .u8 ks, 23),(w.heap.size+1,arr .u8 gy, 26),(gp,D6, 5),(g5,arr .u8 sp, 23),(g7,arr .u8 rl, 23),(g8,arr .u8 pl, 23),(g9,arr .u8 pk, 23)] ++ ent (fF 3) (#[.slice (some ⟨g8,0,none⟩) 32 32, .slice (some ⟨g9,0,none⟩) 32 32, .slice sb nb cb]) 24) (b:=[]) _ _ (by rw [jX,n6];simp only [uL,acF,acE,acG,acH]) (by rw [n6];simp only [AL,acF,acE,acG,acH,acQ,Bool.false_eq_true,if_false])
   exact gN _ _ ⟨j0,j1,j2,j3,j4,fun _ h=>⟨_,sI h⟩,hB1⟩
  refine bH.cons (fun fF bF uF kF fJ jX mF cB fZ gN=>?_) ?_
  ·obtain ⟨j0,j1,j2,j3,j4,j5,hB⟩:=fJ
   have y3:=cB 3 (by kernel_rfl)
   obtain ⟨v3,s3⟩:=sE y3
   obtain ⟨lJ,rfl⟩:=j3 _ s3
   have y5:=cB 5 (by kernel_rfl)
   obtain ⟨v5,s5⟩:=sE y5
   obtain ⟨kI,rfl⟩:=j5 _ s5
   have e10:=fZ.val 5 10 rfl s5
   obtain ⟨e32,p32⟩:=fZ.at cB 4 32 (by kernel_rfl) rfl j4
   have hB':=hB
   rw [s3,s5,jX] at hB'
   refine aH rfl 23 (.tmp 10) (.tmp 32) rfl (kI) (arr .u8 zn) _ 23 (hB'.get 8 rfl) e10 e32 (ay _ _ HKLL.out cK.out) (bE HKLL.out) (av _ _) ?_
   intro w1 hb1 hk1 hz1
   have hB1:bM w w1 ([(w.heap.size,arr .u8 ks, 23),(w.heap.size+1,arr .u8 gy, 26),(gp,D6, 5),(g5,arr .u8 sp, 23),(g7,arr .u8 rl, 23),(g8,arr .u8 pl, 23),(g9,arr .u8 pk, 23)] ++ (ent (fF 3) (#[.slice (some ⟨g8,0,none⟩) 32 32, .slice (some ⟨g9,0,none⟩) 32 32, .slice sb nb cb]) 24 ++ (ent (fF 5) ((if ((some undef:Option Value)).isSome=true then arr .u8 kl else arr .u8 zn)) 23))):=by rw [s3,s5];exact hB'.put 8 rfl hk1 hb1
   exact gN undef w1 ⟨j0,j1,j2,j3,j4,j5,hB1⟩
  exact bH.nil
 case et5 =>
 intro fF ut5 hall fJ
 obtain ⟨j0,j1,j2,j3,j4,j5,hB⟩:=fJ
 obtain ⟨v0,h0⟩:=sE (hall 0 (by decide))
 obtain ⟨rfl,p0⟩:=j0 _ h0
 obtain ⟨v1,h1⟩:=sE (hall 1 (by decide))
 obtain ⟨rfl,p1⟩:=j1 _ h1
 obtain ⟨v2,h2⟩:=sE (hall 2 (by decide))
 obtain ⟨rfl,p2⟩:=j2 _ h2
 obtain ⟨v3,h3⟩:=sE (hall 3 (by decide))
 obtain ⟨lJ,rfl⟩:=j3 _ h3
 obtain ⟨v4,h4⟩:=sE (hall 4 (by decide))
 obtain ⟨rfl,p4⟩:=j4 _ h4
 obtain ⟨v5,h5⟩:=sE (hall 5 (by decide))
 obtain ⟨kI,rfl⟩:=j5 _ h5
 obtain ⟨v6,h6⟩:=sE (hall 6 (by decide))
 rw [h3,h5,h6] at hB
 have HBt5:Hid (bM w ut5 [(w.heap.size,arr .u8 ks, 23),(w.heap.size+1,arr .u8 gy, 26),(gp,D6, 5),(g5,arr .u8 sp, 23),(g7,arr .u8 rl, 23),(g8,arr .u8 pl, 23),(g9,arr .u8 pk, 23),(lJ, #[.slice (some ⟨g8,0,none⟩) 32 32, .slice (some ⟨g9,0,none⟩) 32 32, .slice sb nb cb], 24),(kI,arr .u8 kl, 23)]):=acD hB
 simp only [laid,acN,acO,h0,h1,h2,h3,h4,h5,h6,Act.put,sA,sZ,sS]
 clear j0 j1 j2 j3 j4 j5 hB h0 h1 h2 h3 h4 h5 h6 hall fF HI22
 clear p0 p1 p2 p4
 (try simp only [Exit.then])
 go_upto_region 6 with fail
 (try simp only [World.size_alloc,Act.put,sA,sZ,sS])
 refine gQ (fun (fF:Fill) (uF:World)=>(∀ v,fF 0=some v→v = .agg (arr .u8 rl)∧True)∧(∀ v,fF 1=some v→v = .agg (arr .u8 kl)∧True)∧(∀ v,fF 2=some v→v = .agg (arr .u8 sp)∧True)∧(∀ v,fF 3=some v→v = .agg (arr .u8 ml)∧True)∧(∀ v,fF 4=some v→v = .agg (arr .u8 sl)∧True)∧(∀ v,fF 5=some v→∃ g:Nat,v = .pointer (some ⟨g,0,none⟩))∧bM w uF ([(w.heap.size,arr .u8 ks, 23),(w.heap.size+1,arr .u8 gy, 26),(gp,D6, 5),(g5,arr .u8 sp, 23),(g7,arr .u8 rl, 23),(g8,arr .u8 pl, 23),(g9,arr .u8 pk, 23),(lJ, #[.slice (some ⟨g8,0,none⟩) 32 32, .slice (some ⟨g9,0,none⟩) 32 32, .slice sb nb cb], 24),(kI,arr .u8 kl, 23)] ++ (ent (fF 5) ((if (fF 6).isSome=true then arr .u8 sl else arr .u8 zn)) 23))) (by kernel_rfl) (by kernel_rfl) ?zt6 ?st6 ?et6
 case zt6=>exact ⟨fun _ h=>(by cases h),fun _ h=>(by cases h),fun _ h=>(by cases h),fun _ h=>(by cases h),fun _ h=>(by cases h),fun _ h=>(by cases h),HBt5.out.drew⟩
 case st6 =>
  refine bH.cons (fun fF bF uF kF fJ jX mF cB fZ gN=>?_) ?_
  ·obtain ⟨j0,j1,j2,j3,j4,j5,hB⟩:=fJ
   have e7:bF.eval (.tmp 7) = .pointer (some ⟨g7,0,none⟩):=fZ.old' 7 (by kernel_rfl) rfl
   have hB':=hB
   refine eZ rfl 23 _ rfl (g7) (0) (arr .u8 rl) 23 (0,0) _ (hB'.get 4 rfl) e7 .u8 rl (au _ _) Tryd.underlying23 rfl (bU HRLL.out) ?_
   exact gN _ _ ⟨fun _ h=>⟨sI h,trivial⟩,j1,j2,j3,j4,j5,hB⟩
  refine bH.cons (fun fF bF uF kF fJ jX mF cB fZ gN=>?_) ?_
  ·obtain ⟨j0,j1,j2,j3,j4,j5,hB⟩:=fJ
   have e10:bF.eval (.tmp 10) = .pointer (some ⟨kI,0,none⟩):=fZ.old' 10 (by kernel_rfl) rfl
   have hB':=hB
   refine eZ rfl 23 _ rfl (kI) (0) (arr .u8 kl) 23 (0,0) _ (hB'.get 8 rfl) e10 .u8 kl (au _ _) Tryd.underlying23 rfl (bU HKLL.out) ?_
   exact gN _ _ ⟨j0,fun _ h=>⟨sI h,trivial⟩,j2,j3,j4,j5,hB⟩
  refine bH.cons (fun fF bF uF kF fJ jX mF cB fZ gN=>?_) ?_
  ·obtain ⟨j0,j1,j2,j3,j4,j5,hB⟩:=fJ
   have e5:bF.eval (.tmp 5) = .pointer (some ⟨g5,0,none⟩):=fZ.old' 5 (by kernel_rfl) rfl
   have hB':=hB
   refine eZ rfl 23 _ rfl (g5) (0) (arr .u8 sp) 23 (0,0) _ (hB'.get 3 rfl) e5 .u8 sp (au _ _) Tryd.underlying23 rfl (bU Bj.out) ?_
   exact gN _ _ ⟨j0,j1,fun _ h=>⟨sI h,trivial⟩,j3,j4,j5,hB⟩
  refine bH.cons (fun fF bF uF kF fJ jX mF cB fZ gN=>?_) ?_
  ·obtain ⟨j0,j1,j2,j3,j4,j5,hB⟩:=fJ
   obtain ⟨e34,p34⟩:=fZ.at cB 1 34 (by kernel_rfl) rfl j1
   obtain ⟨e35,p35⟩:=fZ.at cB 2 35 (by kernel_rfl) rfl j2
   refine fQ rfl 63 [Operand.tmp 34,Operand.tmp 35] _ [.agg (arr .u8 kl), .agg (arr .u8 sp)] rfl (by simp only [acL,acM,e34,e35] <;> rfl) (fun _ _=>by kernel_rfl) ?_
   refine Calls.mono (HMUL.out _ (HTQ.out.below hB.below)) ?_
   rintro e w1 ⟨rfl,hb⟩
   exact ⟨_,rfl,gN _ _ ⟨j0,j1,j2,fun _ h=>⟨sI h,trivial⟩,j4,j5,hB.kept hb⟩⟩
  refine bH.cons (fun fF bF uF kF fJ jX mF cB fZ gN=>?_) ?_
  ·obtain ⟨j0,j1,j2,j3,j4,j5,hB⟩:=fJ
   obtain ⟨e33,p33⟩:=fZ.at cB 0 33 (by kernel_rfl) rfl j0
   obtain ⟨e36,p36⟩:=fZ.at cB 3 36 (by kernel_rfl) rfl j3
   refine fQ rfl 62 [Operand.tmp 33,Operand.tmp 36] _ [.agg (arr .u8 rl), .agg (arr .u8 ml)] rfl (by simp only [acL,acM,e33,e36] <;> rfl) (fun _ _=>by kernel_rfl) ?_
   refine Calls.mono (HADD.out _ (HTQ.out.below hB.below)) ?_
   rintro e w1 ⟨rfl,hb⟩
   exact ⟨_,rfl,gN _ _ ⟨j0,j1,j2,j3,fun _ h=>⟨sI h,trivial⟩,j5,hB.kept hb⟩⟩
  refine bH.cons (fun fF bF uF kF fJ jX mF cB fZ gN=>?_) ?_
  ·obtain ⟨j0,j1,j2,j3,j4,j5,hB⟩:=fJ
   have n6:=mF.down 6 5 (by kernel_rfl) jX
   refine bg rfl 23 rfl _ (dA.out _) ?_
   have hB1:bM w (uF.alloc (.cells (arr .u8 zn) 23)) ([(w.heap.size,arr .u8 ks, 23),(w.heap.size+1,arr .u8 gy, 26),(gp,D6, 5),(g5,arr .u8 sp, 23),(g7,arr .u8 rl, 23),(g8,arr .u8 pl, 23),(g9,arr .u8 pk, 23),(lJ, #[.slice (some ⟨g8,0,none⟩) 32 32, .slice (some ⟨g9,0,none⟩) 32 32, .slice sb nb cb], 24),(kI,arr .u8 kl, 23)] ++ (ent ((some (.pointer (some ⟨uF.heap.size,0,none⟩)):Option Value)) ((if (fF 6).isSome=true then arr .u8 sl else arr .u8 zn)) 23)):=hB.ins (a:=[(w.heap.size,arr .u8 ks, 23),(w.heap.size+1,arr .u8 gy, 26),(gp,D6, 5),(g5,arr .u8 sp, 23),(g7,arr .u8 rl, 23),(g8,arr .u8 pl, 23),(g9,arr .u8 pk, 23),(lJ, #[.slice (some ⟨g8,0,none⟩) 32 32, .slice (some ⟨g9,0,none⟩) 32 32, .slice sb nb cb], 24),(kI,arr .u8 kl, 23)]) (b:=[]) _ _ (by rw [jX,n6];simp only [uL,acF,acE,acG,acH]) (by rw [n6];simp only [AL,acF,acE,acG,acH,acQ,Bool.false_eq_true,if_false])
   exact gN _ _ ⟨j0,j1,j2,j3,j4,fun _ h=>⟨_,sI h⟩,hB1⟩
  refine bH.cons (fun fF bF uF kF fJ jX mF cB fZ gN=>?_) ?_
  ·obtain ⟨j0,j1,j2,j3,j4,j5,hB⟩:=fJ
   have y5:=cB 5 (by kernel_rfl)
   obtain ⟨v5,s5⟩:=sE y5
   obtain ⟨mW,rfl⟩:=j5 _ s5
   have e11:=fZ.val 5 11 rfl s5
   obtain ⟨e37,p37⟩:=fZ.at cB 4 37 (by kernel_rfl) rfl j4
   have hB':=hB
   rw [s5,jX] at hB'
   refine aH rfl 23 (.tmp 11) (.tmp 37) rfl (mW) (arr .u8 zn) _ 23 (hB'.get 9 rfl) e11 e37 (ay _ _ HSLL.out cK.out) (bE HSLL.out) (av _ _) ?_
   intro w1 hb1 hk1 hz1
   have hB1:bM w w1 ([(w.heap.size,arr .u8 ks, 23),(w.heap.size+1,arr .u8 gy, 26),(gp,D6, 5),(g5,arr .u8 sp, 23),(g7,arr .u8 rl, 23),(g8,arr .u8 pl, 23),(g9,arr .u8 pk, 23),(lJ, #[.slice (some ⟨g8,0,none⟩) 32 32, .slice (some ⟨g9,0,none⟩) 32 32, .slice sb nb cb], 24),(kI,arr .u8 kl, 23)] ++ (ent (fF 5) ((if ((some undef:Option Value)).isSome=true then arr .u8 sl else arr .u8 zn)) 23)):=by rw [s5];exact hB'.put 9 rfl hk1 hb1
   exact gN undef w1 ⟨j0,j1,j2,j3,j4,j5,hB1⟩
  exact bH.nil
 case et6 =>
 intro fF ut6 hall fJ
 obtain ⟨j0,j1,j2,j3,j4,j5,hB⟩:=fJ
 obtain ⟨v0,h0⟩:=sE (hall 0 (by decide))
 obtain ⟨rfl,p0⟩:=j0 _ h0
 obtain ⟨v1,h1⟩:=sE (hall 1 (by decide))
 obtain ⟨rfl,p1⟩:=j1 _ h1
 obtain ⟨v2,h2⟩:=sE (hall 2 (by decide))
 obtain ⟨rfl,p2⟩:=j2 _ h2
 obtain ⟨v3,h3⟩:=sE (hall 3 (by decide))
 obtain ⟨rfl,p3⟩:=j3 _ h3
 obtain ⟨v4,h4⟩:=sE (hall 4 (by decide))
 obtain ⟨rfl,p4⟩:=j4 _ h4
 obtain ⟨v5,h5⟩:=sE (hall 5 (by decide))
 obtain ⟨mW,rfl⟩:=j5 _ h5
 obtain ⟨v6,h6⟩:=sE (hall 6 (by decide))
 rw [h5,h6] at hB
 have HBt6:Hid (bM w ut6 [(w.heap.size,arr .u8 ks, 23),(w.heap.size+1,arr .u8 gy, 26),(gp,D6, 5),(g5,arr .u8 sp, 23),(g7,arr .u8 rl, 23),(g8,arr .u8 pl, 23),(g9,arr .u8 pk, 23),(lJ, #[.slice (some ⟨g8,0,none⟩) 32 32, .slice (some ⟨g9,0,none⟩) 32 32, .slice sb nb cb], 24),(kI,arr .u8 kl, 23),(mW,arr .u8 sl, 23)]):=acD hB
 simp only [laid,acN,acO,h0,h1,h2,h3,h4,h5,h6,Act.put,sA,sZ,sS]
 clear j0 j1 j2 j3 j4 j5 hB h0 h1 h2 h3 h4 h5 h6 hall fF HBt5
 clear p0 p1 p2 p3 p4
 (try simp only [Exit.then])
 go_upto_region 8 with (first|((with_reducible refine aS 12 ?_);refine lA rfl rfl (wC.out _) HBt6 ?_;intro g12 w30 HI30))
 (try simp only [World.size_alloc,Act.put,sA,sZ,sS])
 refine gQ (fun (fF:Fill) (uF:World)=>(∀ v,fF 0=some v→v = .slice (some ⟨g12,0,none⟩) 32 64∧True)∧(∀ v,fF 1=some v→v = .slice (some ⟨g8,0,none⟩) 32 32∧True)∧(∀ v,fF 2=some v→v = .int .i64 ((32:Nat):Int)∧True)∧bM w uF ([(w.heap.size,arr .u8 ks, 23),(w.heap.size+1,arr .u8 gy, 26),(gp,D6, 5),(g5,arr .u8 sp, 23),(g7,arr .u8 rl, 23),(g8,arr .u8 pl, 23),(g9,arr .u8 pk, 23),(lJ, #[.slice (some ⟨g8,0,none⟩) 32 32, .slice (some ⟨g9,0,none⟩) 32 32, .slice sb nb cb], 24),(kI,arr .u8 kl, 23),(mW,arr .u8 sl, 23),(g12,(if (fF 2).isSome=true then arr .u8 m1 else arr .u8 gy), 26)])) (by kernel_rfl) (by kernel_rfl) ?zt8 ?st8 ?et8
 case zt8=>exact ⟨fun _ h=>(by cases h),fun _ h=>(by cases h),fun _ h=>(by cases h),HI30.out.drew⟩
 case st8 =>
  refine bH.cons (fun fF bF uF kF fJ jX mF cB fZ gN=>?_) ?_
  ·obtain ⟨j0,j1,j2,hB⟩:=fJ
   have e12:bF.eval (.tmp 12) = .pointer (some ⟨g12,0,none⟩):=fZ.old' 12 (by kernel_rfl) rfl
   exact eF rfl (.slice (some ⟨g12,0,none⟩) 32 64) (by simp only [execOp,e12];first|rfl|(go_simp;done)) (gN _ _ ⟨fun _ h=>⟨sI h,trivial⟩,j1,j2,hB⟩)
  refine bH.cons (fun fF bF uF kF fJ jX mF cB fZ gN=>?_) ?_
  ·obtain ⟨j0,j1,j2,hB⟩:=fJ
   have e8:bF.eval (.tmp 8) = .pointer (some ⟨g8,0,none⟩):=fZ.old' 8 (by kernel_rfl) rfl
   exact eF rfl (.slice (some ⟨g8,0,none⟩) 32 32) (by simp only [execOp,e8];first|rfl|(go_simp;done)) (gN _ _ ⟨j0,fun _ h=>⟨sI h,trivial⟩,j2,hB⟩)
  refine bH.cons (fun fF bF uF kF fJ jX mF cB fZ gN=>?_) ?_
  ·obtain ⟨j0,j1,j2,hB⟩:=fJ
   obtain ⟨e38,p38⟩:=fZ.at cB 0 38 (by kernel_rfl) rfl j0
   obtain ⟨e39,p39⟩:=fZ.at cB 1 39 (by kernel_rfl) rfl j1
   have hB':=hB
   rw [jX] at hB'
   refine vB rfl (.tmp 38) (.tmp 39) rfl g12 0 32 64 32 ⟨g8,0,none⟩ gy pl 26 e38 e39 (hB'.get 10 rfl) (HSR1.out _ _ (hB'.get 5 rfl)) (by rw [tJ.out];decide) ?_
   rw [Cz.out]
   intro w1 hb1 hk1
   have hB1:bM w w1 ([(w.heap.size,arr .u8 ks, 23),(w.heap.size+1,arr .u8 gy, 26),(gp,D6, 5),(g5,arr .u8 sp, 23),(g7,arr .u8 rl, 23),(g8,arr .u8 pl, 23),(g9,arr .u8 pk, 23),(lJ, #[.slice (some ⟨g8,0,none⟩) 32 32, .slice (some ⟨g9,0,none⟩) 32 32, .slice sb nb cb], 24),(kI,arr .u8 kl, 23),(mW,arr .u8 sl, 23),(g12,(if ((some (.int .i64 ((32:Nat):Int)):Option Value)).isSome=true then arr .u8 m1 else arr .u8 gy), 26)]):=hB'.put 10 rfl hk1 hb1
   exact gN _ _ ⟨j0,j1,fun _ h=>⟨sI h,trivial⟩,hB1⟩
  exact bH.nil
 case et8 =>
 intro fF ut8 hall fJ
 obtain ⟨j0,j1,j2,hB⟩:=fJ
 obtain ⟨v0,h0⟩:=sE (hall 0 (by decide))
 obtain ⟨rfl,p0⟩:=j0 _ h0
 obtain ⟨v1,h1⟩:=sE (hall 1 (by decide))
 obtain ⟨rfl,p1⟩:=j1 _ h1
 obtain ⟨v2,h2⟩:=sE (hall 2 (by decide))
 obtain ⟨rfl,p2⟩:=j2 _ h2
 rw [h2] at hB
 have HBt8:Hid (bM w ut8 [(w.heap.size,arr .u8 ks, 23),(w.heap.size+1,arr .u8 gy, 26),(gp,D6, 5),(g5,arr .u8 sp, 23),(g7,arr .u8 rl, 23),(g8,arr .u8 pl, 23),(g9,arr .u8 pk, 23),(lJ, #[.slice (some ⟨g8,0,none⟩) 32 32, .slice (some ⟨g9,0,none⟩) 32 32, .slice sb nb cb], 24),(kI,arr .u8 kl, 23),(mW,arr .u8 sl, 23),(g12,arr .u8 m1, 26)]):=acD hB
 simp only [laid,acN,acO,h0,h1,h2,Act.put,sA,sZ,sS]
 clear j0 j1 j2 hB h0 h1 h2 hall fF HI30
 clear p0 p1 p2
 (try simp only [Exit.then])
 go_upto_region 9 with fail
 (try simp only [World.size_alloc,Act.put,sA,sZ,sS])
 refine gQ (fun (fF:Fill) (uF:World)=>(∀ v,fF 0=some v→v = .slice (some ⟨g12,32,none⟩) 32 32∧True)∧(∀ v,fF 1=some v→v = .slice (some ⟨mW,0,none⟩) 32 32∧True)∧(∀ v,fF 2=some v→v = .int .i64 ((32:Nat):Int)∧True)∧bM w uF ([(w.heap.size,arr .u8 ks, 23),(w.heap.size+1,arr .u8 gy, 26),(gp,D6, 5),(g5,arr .u8 sp, 23),(g7,arr .u8 rl, 23),(g8,arr .u8 pl, 23),(g9,arr .u8 pk, 23),(lJ, #[.slice (some ⟨g8,0,none⟩) 32 32, .slice (some ⟨g9,0,none⟩) 32 32, .slice sb nb cb], 24),(kI,arr .u8 kl, 23),(mW,arr .u8 sl, 23),(g12,(if (fF 2).isSome=true then arr .u8 res else arr .u8 m1), 26)])) (by kernel_rfl) (by kernel_rfl) ?zt9 ?st9 ?et9
 case zt9=>exact ⟨fun _ h=>(by cases h),fun _ h=>(by cases h),fun _ h=>(by cases h),HBt8.out.drew⟩
 case st9 =>
  refine bH.cons (fun fF bF uF kF fJ jX mF cB fZ gN=>?_) ?_
  ·obtain ⟨j0,j1,j2,hB⟩:=fJ
   have e12:bF.eval (.tmp 12) = .pointer (some ⟨g12,0,none⟩):=fZ.old' 12 (by kernel_rfl) rfl
   exact eF rfl (.slice (some ⟨g12,32,none⟩) 32 32) (by simp only [execOp,e12];first|rfl|(go_simp;done)) (gN _ _ ⟨fun _ h=>⟨sI h,trivial⟩,j1,j2,hB⟩)
  refine bH.cons (fun fF bF uF kF fJ jX mF cB fZ gN=>?_) ?_
  ·obtain ⟨j0,j1,j2,hB⟩:=fJ
   have e11:bF.eval (.tmp 11) = .pointer (some ⟨mW,0,none⟩):=fZ.old' 11 (by kernel_rfl) rfl
   exact eF rfl (.slice (some ⟨mW,0,none⟩) 32 32) (by simp only [execOp,e11];first|rfl|(go_simp;done)) (gN _ _ ⟨j0,fun _ h=>⟨sI h,trivial⟩,j2,hB⟩)
  refine bH.cons (fun fF bF uF kF fJ jX mF cB fZ gN=>?_) ?_
  ·obtain ⟨j0,j1,j2,hB⟩:=fJ
   obtain ⟨e41,p41⟩:=fZ.at cB 0 41 (by kernel_rfl) rfl j0
   obtain ⟨e42,p42⟩:=fZ.at cB 1 42 (by kernel_rfl) rfl j1
   have hB':=hB
   rw [jX] at hB'
   refine vB rfl (.tmp 41) (.tmp 42) rfl g12 32 32 32 32 ⟨mW,0,none⟩ m1 sl 26 e41 e42 (hB'.get 10 rfl) (HSR2.out _ _ (hB'.get 9 rfl)) (by rw [HM1L.out];decide) ?_
   rw [GN.out]
   intro w1 hb1 hk1
   have hB1:bM w w1 ([(w.heap.size,arr .u8 ks, 23),(w.heap.size+1,arr .u8 gy, 26),(gp,D6, 5),(g5,arr .u8 sp, 23),(g7,arr .u8 rl, 23),(g8,arr .u8 pl, 23),(g9,arr .u8 pk, 23),(lJ, #[.slice (some ⟨g8,0,none⟩) 32 32, .slice (some ⟨g9,0,none⟩) 32 32, .slice sb nb cb], 24),(kI,arr .u8 kl, 23),(mW,arr .u8 sl, 23),(g12,(if ((some (.int .i64 ((32:Nat):Int)):Option Value)).isSome=true then arr .u8 res else arr .u8 m1), 26)]):=hB'.put 10 rfl hk1 hb1
   exact gN _ _ ⟨j0,j1,fun _ h=>⟨sI h,trivial⟩,hB1⟩
  exact bH.nil
 case et9 =>
 intro fF ut9 hall fJ
 obtain ⟨j0,j1,j2,hB⟩:=fJ
 obtain ⟨v0,h0⟩:=sE (hall 0 (by decide))
 obtain ⟨rfl,p0⟩:=j0 _ h0
 obtain ⟨v1,h1⟩:=sE (hall 1 (by decide))
 obtain ⟨rfl,p1⟩:=j1 _ h1
 obtain ⟨v2,h2⟩:=sE (hall 2 (by decide))
 obtain ⟨rfl,p2⟩:=j2 _ h2
 rw [h2] at hB
 have HBt9:Hid (bM w ut9 [(w.heap.size,arr .u8 ks, 23),(w.heap.size+1,arr .u8 gy, 26),(gp,D6, 5),(g5,arr .u8 sp, 23),(g7,arr .u8 rl, 23),(g8,arr .u8 pl, 23),(g9,arr .u8 pk, 23),(lJ, #[.slice (some ⟨g8,0,none⟩) 32 32, .slice (some ⟨g9,0,none⟩) 32 32, .slice sb nb cb], 24),(kI,arr .u8 kl, 23),(mW,arr .u8 sl, 23),(g12,arr .u8 res, 26)]):=acD hB
 simp only [laid,acN,acO,h0,h1,h2,Act.put,sA,sZ,sS]
 clear j0 j1 j2 hB h0 h1 h2 hall fF HBt8
 clear p0 p1 p2
 (try simp only [Exit.then])
 go_wp2_with (first|((with_reducible refine aS 44 ?_);refine lL rfl rfl (HBt9.out.get 10 rfl) rfl (au _ _) Tryd.underlying26 rfl (Sl.sig_i QJ.out) ?_)|((with_reducible refine aT 4 ?_);refine lS rfl rfl HBt9 1 rfl rfl rfl (ay _ _ QJ.out tJ.out) (Sl.lD QJ.out) (av _ _) ?_;intro w40 HI40))
 (try simp only [Exit.then])
 refine bodyPost_ret (results_cell_row rfl _ _ (w.heap.size+1) 26 _ (0,0) _ rfl (HI40.out.get 1 rfl) Tryd.underlying26 rfl (Sl.lD QJ.out)) rfl ?_
 exact ⟨rfl,HI40.out.below⟩
end Go.Proofs.YthdgbgleklkaiaaDoor.Rd
namespace Go.Proofs.YthdgbgleklkaiaaDoor.Ce
open Go.RowKit Lm Fp Cu Sl Sc
structure Nr (w:World):Prop extends TabP w where
 q:Rd.ni w
theorem Nr.below {u u':World} (h:Nr u) (b:Below u.heap.size u u'):Nr u':=⟨h.toTabP.below b,zy h.q b⟩
theorem TabV.s {u:World} (h:TabV u):Nr u:=⟨h.toTabP,h.q⟩
end Go.Proofs.YthdgbgleklkaiaaDoor.Ce
