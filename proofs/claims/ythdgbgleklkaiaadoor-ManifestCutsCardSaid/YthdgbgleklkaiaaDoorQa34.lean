/- The document's Sign: The document's Stop. Condition: as each theorem says. -/

import Derived.Test.YthdgbgleklkaiaaDoorQa32
set_option linter.unusedSimpArgs false
set_option linter.unusedVariables false
set_option maxRecDepth 100000
set_option maxHeartbeats 16000000
namespace Go.Proofs.YthdgbgleklkaiaaDoor.Rd
open Go.RowKit Lm Fp Cu Sc
theorem Cc {bs:List Int} (seed:Nat) (sb:Option Addr) (nb cb:Nat) (w:World) (hB:Src w sb nb bs) (hcb:nb≤cb) (bB:bytes bs) (hN:nb≤1000000000)
  (Ri:vG w) (hTX:Sg w) (hTY:Sd w) (hTQ:mP w) (hTK:Hb.eB w) :
  Calls Tryd.prog 46 #[.agg (arr .u8 (n32 seed)), .slice sb nb cb] w fun e w'=>e = .returned (.agg (arr .u8 (ko seed bs)))∧Below w.heap.size w w':=by
 have hsrl:(jI seed).length=32:=by unfold jI;rw [List.length_drop,Hb.dZ]
 have hsrb:bytes (jI seed):=LW (o8 (n32 seed)) 32
 have hpa:=fun (u:World) (h:Hb.eB u)=>yR seed u h
 have hpu:=fun (u:World) (h1:vG u) (h2:Sg u) (h3:Sd u) (h4:Hb.eB u)=>wK seed u h1 h2 h3 h4
 have hw2:∀ (g:Nat) (u:World),qD u (some ⟨g,0,none⟩) 2 [jI seed,bs]→Hb.eB u→mP u→Calls Tryd.prog 61 #[.slice (some ⟨g,0,none⟩) 2 2] u fun e w'=>e = .returned (.agg (arr .u8 (n32 (wide (jI seed ++ bs)))))∧Below u.heap.size u w':=by
  intro g u h1 h2 h3
  have:=Gh (some ⟨g,0,none⟩) 2 2 [jI seed,bs] u h1 (by intro l h;simp only [List.mem_cons,List.not_mem_nil,or_false] at h;rcases h with rfl|rfl;exact hsrb;exact bB) (by rw [show ([jI seed,bs]:List (List Int)).flatten=jI seed ++ bs by simp,List.length_append,hsrl,hB.len];omega) (by decide) h2 h3
  rwa [show ([jI seed,bs]:List (List Int)).flatten=jI seed ++ bs by simp] at this
 have hw3:∀ (r k g:Nat) (u:World),qD u (some ⟨g,0,none⟩) 3 [n32 r,n32 k,bs]→Hb.eB u→mP u→Calls Tryd.prog 61 #[.slice (some ⟨g,0,none⟩) 3 3] u fun e w'=>e = .returned (.agg (arr .u8 (n32 (wide (n32 r ++ (n32 k ++ bs))))))∧Below u.heap.size u w':=by
  intro r k g u h1 h2 h3
  have:=Gh (some ⟨g,0,none⟩) 3 3 [n32 r,n32 k,bs] u h1 (by intro l h;simp only [List.mem_cons,List.not_mem_nil,or_false] at h;rcases h with rfl|rfl|rfl;exact eH _;exact eH _;exact bB) (by rw [show ([n32 r,n32 k,bs]:List (List Int)).flatten=n32 r ++ (n32 k ++ bs) by simp,List.length_append,List.length_append,bW,bW,hB.len];omega) (by decide) h2 h3
  rwa [show ([n32 r,n32 k,bs]:List (List Int)).flatten=n32 r ++ (n32 k ++ bs) by simp] at this
 have hes:ko seed bs=n32 (vk seed bs) ++ n32 (LB seed bs):=rfl
 obtain ⟨RR,hRR⟩:∃ r,r=wide (jI seed ++ bs):=⟨_,rfl⟩
 have hRL:RR < 256 ^ 32:=by rw [hRR];exact Nat.lt_trans (Nat.mod_lt _ Ox) JH
 have hR:vk seed bs=lu (jU base RR 256):=by rw [hRR];rfl
 have hS:LB seed bs=(RR+wide (n32 (vk seed bs) ++ (n32 (xC seed) ++ bs)) * jJ seed % q) % q:=by rw [hRR];rfl
 have tT:=fun (ps:List Int) (P:Pt) (u:World) (h1:lZ ps P) (h2:vG u)=>GV ps P RR u h1 h2
 have hw1:=fun (ps:List Int) (u:World) (h:lZ ps (jU base RR 256))=>wD ps _ u h
 rw [← hR] at hw1
 have hspl:jJ seed < 256 ^ 32:=by
  have:=Nat.mod_lt (eY ((Hb.hash (n32 seed)).take 32) / 8 * 8) (show 2 ^ 254 > 0 by decide)
  show _ / 8 * 8 % 2 ^ 254+2 ^ 254 < 256 ^ 32
  rw [show (256:Nat) ^ 32=2 ^ 256 by decide]
  omega
 obtain ⟨R,hRe⟩:∃ r,r=vk seed bs:=⟨_,rfl⟩
 obtain ⟨PK,hPK⟩:∃ r,r=xC seed:=⟨_,rfl⟩
 obtain ⟨SP,hSP⟩:∃ x,x=jJ seed:=⟨_,rfl⟩
 obtain ⟨sr,hsr⟩:∃ x,x=jI seed:=⟨_,rfl⟩
 rw [← hRe,← hPK,← hSP] at hS
 rw [hS,← hRe] at hes
 rw [← hRe] at hw1
 rw [← hRR,← hsr] at hw2
 rw [← hsr] at hsrl
 rw [← hsr,← hSP] at hpa
 rw [← hSP] at hspl
 rw [← hPK] at hpu
 have hw3':=hw3 R PK
 obtain ⟨KK,hKK⟩:∃ k,k=wide (n32 R ++ (n32 PK ++ bs)):=⟨_,rfl⟩
 rw [← hKK] at hw3' hes
 have hKL:KK < 256 ^ 32:=by rw [hKK];exact Nat.lt_trans (Nat.mod_lt _ Ox) JH
 have hmul:=fun (u:World) (h:mP u)=>U6 KK SP u hKL hspl h
 have hadd:=fun (u:World) (h:mP u)=>ZF RR (KK * SP % q) u hRL (Nat.lt_trans (Nat.mod_lt _ Ox) JH) h
 obtain ⟨pl,hpl⟩:∃ x,x=n32 R:=⟨_,rfl⟩
 obtain ⟨pk,hpk⟩:∃ x,x=n32 PK:=⟨_,rfl⟩
 obtain ⟨sp,hsp⟩:∃ x,x=n32 SP:=⟨_,rfl⟩
 obtain ⟨rl,hrl⟩:∃ x,x=n32 RR:=⟨_,rfl⟩
 obtain ⟨kl,hkl⟩:∃ x,x=n32 KK:=⟨_,rfl⟩
 obtain ⟨ml,hml⟩:∃ x,x=n32 (KK * SP % q):=⟨_,rfl⟩
 obtain ⟨sl,hsl⟩:∃ x,x=n32 ((RR+KK * SP % q) % q):=⟨_,rfl⟩
 obtain ⟨ks,hks⟩:∃ x,x=n32 seed:=⟨_,rfl⟩
 rw [show aW (bD 256 32 R)=n32 R from rfl,← hpl] at hw1
 rw [show aW (bD 256 32 RR)=n32 RR from rfl,← hrl] at tT
 rw [show aW (bD 256 32 KK)=n32 KK from rfl,show aW (bD 256 32 SP)=n32 SP from rfl,show aW (bD 256 32 (KK * SP % q))=n32 (KK * SP % q) from rfl,← hkl,← hsp,← hml] at hmul
 rw [show aW (bD 256 32 RR)=n32 RR from rfl,show aW (bD 256 32 (KK * SP % q))=n32 (KK * SP % q) from rfl,show aW (bD 256 32 ((RR+KK * SP % q) % q))=n32 ((RR+KK * SP % q) % q) from rfl,← hrl,← hml,← hsl] at hadd
 rw [← hsl,← hpl] at hes
 rw [← hrl] at hw2
 rw [← hpl,← hpk,← hkl] at hw3'
 rw [← hsp,← hks] at hpa
 rw [← hpk,← hks] at hpu
 rw [← hks]
 have vQ:Hid (pl.length=32):=Lib.hid (by rw [hpl];exact bW _)
 have HPKL:Hid (pk.length=32):=Lib.hid (by rw [hpk];exact bW _)
 have Aj:Hid (sp.length=32):=Lib.hid (by rw [hsp];exact bW _)
 have HRLL:Hid (rl.length=32):=Lib.hid (by rw [hrl];exact bW _)
 have HKLL:Hid (kl.length=32):=Lib.hid (by rw [hkl];exact bW _)
 have HMLL:Hid (ml.length=32):=Lib.hid (by rw [hml];exact bW _)
 have Z7:Hid (sl.length=32):=Lib.hid (by rw [hsl];exact bW _)
 have HKSL:Hid (ks.length=32):=Lib.hid (by rw [hks];exact bW _)
 have hes':=hes
 obtain ⟨res,hres⟩:∃ r,r=ko seed bs:=⟨_,rfl⟩
 rw [← hres] at hes' ⊢
 have Py:Hid (res.length=64):=Lib.hid (by rw [hes',List.length_append,vQ.out,Z7.out])
 obtain ⟨zn,hzn⟩:∃ zs:List Int,zs=List.replicate 32 0:=⟨_,rfl⟩
 have dx:Hid (∀ w,(zeroValue 23).run Tryd.prog w = .ok (.agg (arr .u8 zn)) w):=Lib.hid (by intro w;rw [hzn];exact zero_num w)
 have cB:Hid (zn.length=32):=Lib.hid (by rw [hzn];rfl)
 obtain ⟨fP,oW⟩:∃ zs:List Int,zs=List.replicate 64 0:=⟨_,rfl⟩
 have vL:Hid (∀ w,(zeroValue 26).run Tryd.prog w = .ok (.agg (arr .u8 fP)) w):=Lib.hid (by intro w;rw [oW];exact Sl.sJ w)
 have rY:Hid (fP.length=64):=Lib.hid (by rw [oW];rfl)
 obtain ⟨m1,hm1⟩:∃ x,x=pl ++ fP.drop 32:=⟨_,rfl⟩
 have F5:Hid (fP.take 0 ++ pl ++ fP.drop (0+32)=m1):=Lib.hid (by rw [hm1];rfl)
 have HM1L:Hid (m1.length=64):=Lib.hid (by rw [hm1,List.length_append,vQ.out,List.length_drop,rY.out])
 have PD:Hid (m1.take 32 ++ sl ++ m1.drop (32+32)=res):=Lib.hid (by rw [hes',List.drop_of_length_le (by rw [HM1L.out];decide),List.append_nil,hm1,List.take_append_of_le_length (by rw [vQ.out];decide),List.take_of_length_le (by rw [vQ.out];decide)])
 have HSR1:Hid (∀ (u:World) (g:Nat),u.heap[g]? = some (.cells (arr .u8 pl) 23 (0,0))→Src u (some ⟨g,0,none⟩) 32 pl):=Lib.hid (fun u g h=>Sl.bO h 32 vQ.out)
 have HSR2:Hid (∀ (u:World) (g:Nat),u.heap[g]? = some (.cells (arr .u8 sl) 23 (0,0))→Src u (some ⟨g,0,none⟩) 32 sl):=Lib.hid (fun u g h=>Sl.bO h 32 Z7.out)
 have HSRL:=Lib.hid hsrl
 have HPA:=Lib.hid hpa
 have HPU:=Lib.hid hpu
 have HWD2:=Lib.hid hw2
 have HWD3:=Lib.hid hw3'
 have IG:=Lib.hid tT
 have HW1:=Lib.hid hw1
 have HMUL:=Lib.hid hmul
 have HADD:=Lib.hid hadd
 have Px:=Lib.hid hB
 have HCB:=Lib.hid hcb
 have HTD:=Lib.hid Ri
 have HTX:=Lib.hid hTX
 have HTY:=Lib.hid hTY
 have HTQ:=Lib.hid hTQ
 have vO:=Lib.hid hTK
 have HI0:=Lib.hid (bM.two w (arr .u8 ks) (arr .u8 fP) 23 26)
 clear hzn oW hm1 hes' hres hes hks hsl hml hkl hrl hsp hpk hpl hadd hmul hKL hKK hw3' hw3 hsr hSP hPK hRe hspl hw1 tT hS hR hRL hRR hw2 hpu hpa hsrb hsrl hB hcb bB hN Ri hTX hTY hTQ hTK
 go_enter Tryd.func46, Tryd.ntmps46
 go_upto_region 1 with (first|((with_reducible refine aS 4 ?_);refine aj rfl 26 rfl _ (vL.out _) ?_))
 (try simp only [World.size_alloc,Act.put,sA,sZ,sS])
 generalize ((w.alloc (.cells (arr .u8 ks) 23)).alloc (.cells (arr .u8 fP) 26))=wb at HI0 ⊢
 go_upto_region 2 with (first|((with_reducible refine aS 14 ?_);refine ak rfl 23 _ rfl (w.heap.size) 0 _ 23 (0,0) _ (HI0.out.get 0 rfl) rfl .u8 ks (au _ _) Tryd.underlying23 rfl (bU HKSL.out) ?_)|((with_reducible show Calls _ 48 _ _ _);go_at_call 48; refine (HPA.out _ (ig vO.out HI0.out.below)).mono ?_;rintro e w1 ⟨gp,cp,CW,rfl,⟨h2,h3,h4,h5⟩,hb1⟩;have HI1:=Lib.hid (Sl.bM.add HI0.out hb1 h2 h3);have HCP:=Lib.hid h4;have HCU:=Lib.hid h5;clear hb1 h2 h3 h4 h5)|((with_reducible refine aS 5 ?_);refine aj rfl 23 rfl _ (dx.out _) ?_;have HI2:=Lib.hid (HI1.out.alloc (arr .u8 zn) 23);generalize w1.heap.size=g5 at HI2 ⊢; generalize w1.alloc (.cells (arr .u8 zn) 23)=w2 at HI2 ⊢)|((with_reducible refine aT 5 ?_);refine ah rfl 23 _ _ rfl (g5) _ _ 23 (HI2.out.get 3 rfl) rfl rfl (ay _ _ Aj.out cB.out) (bE Aj.out) (av _ _) ?_;intro w3 hb3 hk3 hz3;have HI3:=Lib.hid (HI2.out.put 3 rfl hk3 hb3);clear hb3 hk3 hz3))
 (try simp only [World.size_alloc,Act.put,sA,sZ,sS])
 have HSL2:Hid (∀ u:World,Src u (some ⟨gp,0,none⟩) 32 sr→Src u sb nb bs→qD (u.alloc (.cells #[.slice (some ⟨gp,0,none⟩) 32 cp, .slice sb nb cb] 24)) (some ⟨u.heap.size,0,none⟩) 2 [sr,bs]):=Lib.hid (fun u h1 h2=>Sl.src_two (aL u _) (h1.below ((Below.refl _ u).alloc (Nat.le_refl _) _)) (h2.below ((Below.refl _ u).alloc (Nat.le_refl _) _)) HCP.out HCB.out)
 have HSRC:Hid (Src w3 (some ⟨gp,0,none⟩) 32 sr):=Lib.hid (nu (HI3.out.get 2 rfl) (by rw [HSRL.out];exact HCU.out) HSRL.out)
 go_upto_region 3 with (first|((with_reducible show Calls _ 61 _ _ _);go_at_call 61; refine (HWD2.out _ _ (HSL2.out _ HSRC.out (Px.out.below HI3.out.below)) (ig vO.out (HI3.out.below.alloc HI3.out.below.size _)) (HTQ.out.below (HI3.out.below.alloc HI3.out.below.size _))).mono ?_;rintro e w4 ⟨rfl,hb4⟩;have HI4:=Lib.hid (HI3.out.kept (Sl.R8 hb4));clear hb4)|((with_reducible refine aS 7 ?_);refine aj rfl 23 rfl _ (dx.out _) ?_;have HI5:=Lib.hid (HI4.out.alloc (arr .u8 zn) 23);generalize w4.heap.size=g7 at HI5 ⊢; generalize w4.alloc (.cells (arr .u8 zn) 23)=w5 at HI5 ⊢)|((with_reducible refine aT 7 ?_);refine ah rfl 23 _ _ rfl (g7) _ _ 23 (HI5.out.get 4 rfl) rfl rfl (ay _ _ HRLL.out cB.out) (bE HRLL.out) (av _ _) ?_;intro w6 hb6 xV Ka;have SX:=Lib.hid (HI5.out.put 4 rfl xV hb6);clear hb6 xV Ka))
 (try simp only [World.size_alloc,Act.put,sA,sZ,sS])
 go_cut [8] (fun u8 wx=>∃ gg,u8 = .pointer (some ⟨gg,0,none⟩)∧bM w wx [(w.heap.size,arr .u8 ks, 23),(w.heap.size+1,arr .u8 fP, 26),(gp,CW, 5),(g5,arr .u8 sp, 23),(g7,arr .u8 rl, 23),(gg,arr .u8 pl, 23)])
 case first =>
  have dU:=Lib.hid ((Kept.refl (fun _=>False) w6).drew)
  have dX:=Lib.hid (SX.out.drew)
  refine wp_region_held_drew (S:=(fun w'=>Kept (fun _=>False) w6 w')) (by kernel_rfl) (dU.out) (fun hHeld=>?_)
  generalize w6.drew=wd at dU dX hHeld ⊢
  refine' wpAnyH_take (i:=1) (oi:=(⟨some 23,_,_,_,_,none⟩:Oper)) (v:=_) rfl (by kernel_rfl) (by kernel_rfl) (by kernel_rfl) (fun _ _ _ h=>h) (yieldsIf_load_mid (by rfl) _ _ rfl _ _ rfl (rl.map (Value.int .u8)) _ ?hS5501 Tryd.underlying23 rfl (by rw [List.length_map];exact bU HRLL.out)) (by assumption) ?rest5501
  case hS5501=>(intro w hSw;(try dsimp only at hSw);exact aM (hSw.blk (SX.out.get 4 rfl) (fun e=>e.elim)) 0 _ (by rw [List.length_map];exact au _ _))
  (try simp only [Act.put,sA,sZ,sS])
  refine wpAnyH_ready (rs:=[0,4]) (by kernel_rfl) (by simp) ?_
  refine AllReadyH.cons (o:=(⟨some 22,_,_,_,_,none⟩:Oper)) rfl (fun K hK=>?_) ?_
  ·go_simp
   go_at_call 51
   refine (Af _ (bA HTX.out dX.out.below) (bA HTY.out dX.out.below)).mono ?_
   rintro e Tt ⟨z5502,rfl,Yl,KO⟩
   have ZL:=Lib.hid Yl
   have HL5502:=Lib.hid Yl.len
   clear Yl
   have AB:=Lib.hid (dX.out.kept KO)
   have vX:=Lib.hid (dU.out.trans (Kept.of_below KO))
   clear KO
   (try dsimp only)
   clear dX
   clear dU
   clear hHeld
   refine hK.out _ _ (vX.out) (fun hHeld=>?_)
   clear hK K
   (try simp only [Act.put,sA,sZ,sS])
   refine wpAnyH_ready (rs:=[2,4]) (by kernel_rfl) (by simp) ?_
   refine AllReadyH.cons (o:=(⟨some 24,_,_,_,_,none⟩:Oper)) rfl (fun K hK=>?_) ?_
   ·go_simp
    go_at_call 50
    refine (IG.out _ _ _ ZL.out (bA HTD.out AB.out.below)).mono ?_
    rintro e Tq ⟨z5503,rfl,Yk,KN⟩
    have ZK:=Lib.hid Yk
    have HL5503:=Lib.hid Yk.len
    clear Yk
    have FD:=Lib.hid (AB.out.kept KN)
    have vW:=Lib.hid (vX.out.trans (Kept.of_below KN))
    clear KN
    (try dsimp only)
    clear AB
    clear vX
    clear hHeld
    refine hK.out _ _ (vW.out) (fun hHeld=>?_)
    clear hK K
    (try simp only [Act.put,sA,sZ,sS])
    refine wpAnyH_ready (rs:=[3,4]) (by kernel_rfl) (by simp) ?_
    refine AllReadyH.cons (o:=(⟨some 25,_,_,_,_,none⟩:Oper)) rfl (fun K hK=>?_) ?_
    ·go_simp
     go_at_call 49
     refine (HW1.out _ _ ZK.out).mono ?_
     rintro e Tp ⟨rfl,KM⟩
     have HB5504:=Lib.hid (FD.out.kept KM)
     have Fj:=Lib.hid (vW.out.trans (Kept.of_below KM))
     clear KM
     (try dsimp only)
     clear FD
     clear vW
     clear hHeld
     refine hK.out _ _ (Fj.out) (fun hHeld=>?_)
     clear hK K
     (try simp only [Act.put,sA,sZ,sS])
     refine wpAnyH_ready (rs:=[4]) (by kernel_rfl) (by simp) ?_
     refine AllReadyH.cons (o:=(⟨some 8,_,_,_,_,none⟩:Oper)) rfl (fun K hK=>?_) AllReadyH.nil
     refine bg rfl 23 rfl _ (dx.out _) ?_
     have AA:=Lib.hid (HB5504.out.alloc (arr .u8 zn) 23)
     have Fh:=Lib.hid (Fj.out.alloc (.cells (arr .u8 zn) 23))
     have aaG:=Lib.hid (show w6.heap.size≤(Tp).heap.size from Fj.out.size)
     generalize (Tp).heap.size=g5505 at AA aaG ⊢
     generalize (Tp).alloc (.cells (arr .u8 zn) 23)=w5505 at AA Fh ⊢
     clear HB5504
     clear Fj
     clear hHeld
     refine hK.out _ _ (Fh.out) (fun hHeld=>?_)
     clear hK K
     (try simp only [Act.put,sA,sZ,sS])
     refine wpAnyH_ready (rs:=[5]) (by kernel_rfl) (by simp) ?_
     refine AllReadyH.cons (o:=(⟨none,_,_,_,_,none⟩:Oper)) rfl (fun K hK=>?_) AllReadyH.nil
     refine aD rfl 23 (.tmp 8) (.tmp 25) rfl (g5505) _ _ _ (AA.out.get 5 rfl) rfl rfl (ay _ _ vQ.out cB.out) (bE vQ.out) (av _ _) ?_
     intro w5506 WY Kq hz5506
     have HB5506:=Lib.hid (AA.out.put 5 rfl Kq WY)
     have HK5506:=Lib.hid (Fh.out.cK Kq (fun i hi e=>absurd hi (by rw [e];exact Nat.not_lt.2 aaG.out)))
     clear WY Kq hz5506
     clear AA
     clear Fh
     clear hHeld
     refine hK.out _ _ (HK5506.out) (fun hHeld=>?_)
     clear hK K
     (try simp only [Act.put])
     refine wpAnyH_done (by kernel_rfl) ?_ _
     go_wp2_with fail
     go_meet
     exact ⟨_,rfl,HB5506.out⟩
    refine AllReadyH.cons (o:=(⟨some 8,_,_,_,_,none⟩:Oper)) rfl (fun K hK=>?_) ?_
    ·refine bg rfl 23 rfl _ (dx.out _) ?_
     have FC:=Lib.hid (FD.out.alloc (arr .u8 zn) 23)
     have Fg:=Lib.hid (vW.out.alloc (.cells (arr .u8 zn) 23))
     have aaF:=Lib.hid (show w6.heap.size≤(Tq).heap.size from vW.out.size)
     generalize (Tq).heap.size=g5507 at FC aaF ⊢
     generalize (Tq).alloc (.cells (arr .u8 zn) 23)=w5507 at FC Fg ⊢
     clear FD
     clear vW
     clear hHeld
     refine hK.out _ _ (Fg.out) (fun hHeld=>?_)
     clear hK K
     (try simp only [Act.put,sA,sZ,sS])
     refine wpAnyH_ready (rs:=[3]) (by kernel_rfl) (by simp) ?_
     refine AllReadyH.cons (o:=(⟨some 25,_,_,_,_,none⟩:Oper)) rfl (fun K hK=>?_) AllReadyH.nil
     go_simp
     go_at_call 49
     refine (HW1.out _ _ ZK.out).mono ?_
     rintro e w5508 ⟨rfl,KJ⟩
     have Nq:=Lib.hid (FC.out.kept KJ)
     have MR:=Lib.hid (Fg.out.trans (Kept.of_below KJ))
     clear KJ
     (try dsimp only)
     clear FC
     clear Fg
     clear hHeld
     refine hK.out _ _ (MR.out) (fun hHeld=>?_)
     clear hK K
     (try simp only [Act.put,sA,sZ,sS])
     refine wpAnyH_ready (rs:=[5]) (by kernel_rfl) (by simp) ?_
     refine AllReadyH.cons (o:=(⟨none,_,_,_,_,none⟩:Oper)) rfl (fun K hK=>?_) AllReadyH.nil
     refine aD rfl 23 (.tmp 8) (.tmp 25) rfl (g5507) _ _ _ (Nq.out.get 5 rfl) rfl rfl (ay _ _ vQ.out cB.out) (bE vQ.out) (av _ _) ?_
     intro w5509 WX Ko hz5509
     have HB5509:=Lib.hid (Nq.out.put 5 rfl Ko WX)
     have HK5509:=Lib.hid (MR.out.cK Ko (fun i hi e=>absurd hi (by rw [e];exact Nat.not_lt.2 aaF.out)))
     clear WX Ko hz5509
     clear Nq
     clear MR
     clear hHeld
     refine hK.out _ _ (HK5509.out) (fun hHeld=>?_)
     clear hK K
     (try simp only [Act.put])
     refine wpAnyH_done (by kernel_rfl) ?_ _
     go_wp2_with fail
     go_meet
     exact ⟨_,rfl,HB5509.out⟩
    exact AllReadyH.nil
   refine AllReadyH.cons (o:=(⟨some 8,_,_,_,_,none⟩:Oper)) rfl (fun K hK=>?_) ?_
   ·refine bg rfl 23 rfl _ (dx.out _) ?_
    have Az:=Lib.hid (AB.out.alloc (arr .u8 zn) 23)
    have Fe:=Lib.hid (vX.out.alloc (.cells (arr .u8 zn) 23))
    have aaE:=Lib.hid (show w6.heap.size≤(Tt).heap.size from vX.out.size)
    generalize (Tt).heap.size=g5510 at Az aaE ⊢
    generalize (Tt).alloc (.cells (arr .u8 zn) 23)=w5510 at Az Fe ⊢
    clear AB
    clear vX
    clear hHeld
    refine hK.out _ _ (Fe.out) (fun hHeld=>?_)
    clear hK K
    (try simp only [Act.put,sA,sZ,sS])
    refine wpAnyH_ready (rs:=[2]) (by kernel_rfl) (by simp) ?_
    refine AllReadyH.cons (o:=(⟨some 24,_,_,_,_,none⟩:Oper)) rfl (fun K hK=>?_) AllReadyH.nil
    go_simp
    go_at_call 50
    refine (IG.out _ _ _ ZL.out (bA HTD.out Az.out.below)).mono ?_
    rintro e w5511 ⟨z5511,rfl,Yj,KI⟩
    have HZ5511:=Lib.hid Yj
    have HL5511:=Lib.hid Yj.len
    clear Yj
    have HB5511:=Lib.hid (Az.out.kept KI)
    have MQ:=Lib.hid (Fe.out.trans (Kept.of_below KI))
    clear KI
    (try dsimp only)
    clear Az
    clear Fe
    clear hHeld
    refine hK.out _ _ (MQ.out) (fun hHeld=>?_)
    clear hK K
    (try simp only [Act.put,sA,sZ,sS])
    refine wpAnyH_ready (rs:=[3]) (by kernel_rfl) (by simp) ?_
    refine AllReadyH.cons (o:=(⟨some 25,_,_,_,_,none⟩:Oper)) rfl (fun K hK=>?_) AllReadyH.nil
    go_simp
    go_at_call 49
    refine (HW1.out _ _ HZ5511.out).mono ?_
    rintro e w5512 ⟨rfl,KH⟩
    have Np:=Lib.hid (HB5511.out.kept KH)
    have MO:=Lib.hid (MQ.out.trans (Kept.of_below KH))
    clear KH
    (try dsimp only)
    clear HB5511
    clear MQ
    clear hHeld
    refine hK.out _ _ (MO.out) (fun hHeld=>?_)
    clear hK K
    (try simp only [Act.put,sA,sZ,sS])
    refine wpAnyH_ready (rs:=[5]) (by kernel_rfl) (by simp) ?_
    refine AllReadyH.cons (o:=(⟨none,_,_,_,_,none⟩:Oper)) rfl (fun K hK=>?_) AllReadyH.nil
    refine aD rfl 23 (.tmp 8) (.tmp 25) rfl (g5510) _ _ _ (Np.out.get 5 rfl) rfl rfl (ay _ _ vQ.out cB.out) (bE vQ.out) (av _ _) ?_
    intro w5513 WW Kn hz5513
    have HB5513:=Lib.hid (Np.out.put 5 rfl Kn WW)
    have HK5513:=Lib.hid (MO.out.cK Kn (fun i hi e=>absurd hi (by rw [e];exact Nat.not_lt.2 aaE.out)))
    clear WW Kn hz5513
    clear Np
    clear MO
    clear hHeld
    refine hK.out _ _ (HK5513.out) (fun hHeld=>?_)
    clear hK K
    (try simp only [Act.put])
    refine wpAnyH_done (by kernel_rfl) ?_ _
    go_wp2_with fail
    go_meet
    exact ⟨_,rfl,HB5513.out⟩
   exact AllReadyH.nil
  refine AllReadyH.cons (o:=(⟨some 8,_,_,_,_,none⟩:Oper)) rfl (fun K hK=>?_) ?_
  ·refine bg rfl 23 rfl _ (dx.out _) ?_
   have wh:=Lib.hid (dX.out.alloc (arr .u8 zn) 23)
   have Fb:=Lib.hid (dU.out.alloc (.cells (arr .u8 zn) 23))
   have aaD:=Lib.hid (show w6.heap.size≤(wd).heap.size from dU.out.size)
   generalize (wd).heap.size=g5514 at wh aaD ⊢
   generalize (wd).alloc (.cells (arr .u8 zn) 23)=w5514 at wh Fb ⊢
   clear dX
   clear dU
   clear hHeld
   refine hK.out _ _ (Fb.out) (fun hHeld=>?_)
   clear hK K
   (try simp only [Act.put,sA,sZ,sS])
   refine wpAnyH_ready (rs:=[0]) (by kernel_rfl) (by simp) ?_
   refine AllReadyH.cons (o:=(⟨some 22,_,_,_,_,none⟩:Oper)) rfl (fun K hK=>?_) AllReadyH.nil
   go_simp
   go_at_call 51
   refine (Af _ (bA HTX.out wh.out.below) (bA HTY.out wh.out.below)).mono ?_
   rintro e w5515 ⟨z5515,rfl,Yi,KG⟩
   have HZ5515:=Lib.hid Yi
   have HL5515:=Lib.hid Yi.len
   clear Yi
   have Nn:=Lib.hid (wh.out.kept KG)
   have MK:=Lib.hid (Fb.out.trans (Kept.of_below KG))
   clear KG
   (try dsimp only)
   clear wh
   clear Fb
   clear hHeld
   refine hK.out _ _ (MK.out) (fun hHeld=>?_)
   clear hK K
   (try simp only [Act.put,sA,sZ,sS])
   refine wpAnyH_ready (rs:=[2]) (by kernel_rfl) (by simp) ?_
   refine AllReadyH.cons (o:=(⟨some 24,_,_,_,_,none⟩:Oper)) rfl (fun K hK=>?_) AllReadyH.nil
   go_simp
   go_at_call 50
   refine (IG.out _ _ _ HZ5515.out (bA HTD.out Nn.out.below)).mono ?_
   rintro e w5516 ⟨z5516,rfl,Yh,KF⟩
   have HZ5516:=Lib.hid Yh
   have HL5516:=Lib.hid Yh.len
   clear Yh
   have HB5516:=Lib.hid (Nn.out.kept KF)
   have MJ:=Lib.hid (MK.out.trans (Kept.of_below KF))
   clear KF
   (try dsimp only)
   clear Nn
   clear MK
   clear hHeld
   refine hK.out _ _ (MJ.out) (fun hHeld=>?_)
   clear hK K
   (try simp only [Act.put,sA,sZ,sS])
   refine wpAnyH_ready (rs:=[3]) (by kernel_rfl) (by simp) ?_
   refine AllReadyH.cons (o:=(⟨some 25,_,_,_,_,none⟩:Oper)) rfl (fun K hK=>?_) AllReadyH.nil
   go_simp
   go_at_call 49
   refine (HW1.out _ _ HZ5516.out).mono ?_
   rintro e w5517 ⟨rfl,KE⟩
   have Nl:=Lib.hid (HB5516.out.kept KE)
   have MI:=Lib.hid (MJ.out.trans (Kept.of_below KE))
   clear KE
   (try dsimp only)
   clear HB5516
   clear MJ
   clear hHeld
   refine hK.out _ _ (MI.out) (fun hHeld=>?_)
   clear hK K
   (try simp only [Act.put,sA,sZ,sS])
   refine wpAnyH_ready (rs:=[5]) (by kernel_rfl) (by simp) ?_
   refine AllReadyH.cons (o:=(⟨none,_,_,_,_,none⟩:Oper)) rfl (fun K hK=>?_) AllReadyH.nil
   refine aD rfl 23 (.tmp 8) (.tmp 25) rfl (g5514) _ _ _ (Nl.out.get 5 rfl) rfl rfl (ay _ _ vQ.out cB.out) (bE vQ.out) (av _ _) ?_
   intro w5518 WV Km hz5518
   have HB5518:=Lib.hid (Nl.out.put 5 rfl Km WV)
   have HK5518:=Lib.hid (MI.out.cK Km (fun i hi e=>absurd hi (by rw [e];exact Nat.not_lt.2 aaD.out)))
   clear WV Km hz5518
   clear Nl
   clear MI
   clear hHeld
   refine hK.out _ _ (HK5518.out) (fun hHeld=>?_)
   clear hK K
   (try simp only [Act.put])
   refine wpAnyH_done (by kernel_rfl) ?_ _
   go_wp2_with fail
   go_meet
   exact ⟨_,rfl,HB5518.out⟩
  exact AllReadyH.nil
 case rest =>
 obtain ⟨wy,rfl⟩:∃ x:World,x=wc:=⟨_,rfl⟩
 obtain ⟨g8,rfl,hb1⟩:=hcut
 have HI8:=Lib.hid hb1
 clear hb1
 go_upto_region 5 with (first|((with_reducible refine aS 26 ?_);refine ak rfl 23 _ rfl (w.heap.size) 0 _ 23 (0,0) _ (HI8.out.get 0 rfl) rfl .u8 ks (au _ _) Tryd.underlying23 rfl (bU HKSL.out) ?_)|((with_reducible show Calls _ 34 _ _ _);go_at_call 34; refine (HPU.out _ (bA HTD.out HI8.out.below) (bA HTX.out HI8.out.below) (bA HTY.out HI8.out.below) (ig vO.out HI8.out.below)).mono ?_;rintro e w20 ⟨rfl,hb20⟩;have HI20:=Lib.hid (HI8.out.kept hb20);clear hb20)|((with_reducible refine aS 9 ?_);refine aj rfl 23 rfl _ (dx.out _) ?_;have HI21:=Lib.hid (HI20.out.alloc (arr .u8 zn) 23);generalize w20.heap.size=g9 at HI21 ⊢; generalize w20.alloc (.cells (arr .u8 zn) 23)=w21 at HI21 ⊢)|((with_reducible refine aT 9 ?_);refine ah rfl 23 _ _ rfl (g9) _ _ 23 (HI21.out.get 6 rfl) rfl rfl (ay _ _ HPKL.out cB.out) (bE HPKL.out) (av _ _) ?_;intro w22 tX tV Es;have HI22:=Lib.hid (HI21.out.put 6 rfl tV tX);clear tX tV Es))
 (try simp only [World.size_alloc,Act.put,sA,sZ,sS])
 refine gL (fun (fF:Fill) (uF:World)=>(∀ v,fF 0=some v→v = .slice (some ⟨g8,0,none⟩) 32 32∧True)∧(∀ v,fF 1=some v→v = .slice (some ⟨g9,0,none⟩) 32 32∧True)∧(∀ v,fF 2=some v→v = .slice sb nb cb∧True)∧(∀ v,fF 3=some v→∃ g:Nat,v = .slice (some ⟨g,0,none⟩) 3 3)∧(∀ v,fF 4=some v→v = .agg (arr .u8 kl)∧True)∧(∀ v,fF 5=some v→∃ g:Nat,v = .pointer (some ⟨g,0,none⟩))∧bM w uF ([(w.heap.size,arr .u8 ks, 23),(w.heap.size+1,arr .u8 fP, 26),(gp,CW, 5),(g5,arr .u8 sp, 23),(g7,arr .u8 rl, 23),(g8,arr .u8 pl, 23),(g9,arr .u8 pk, 23)] ++ (ent (fF 3) (#[.slice (some ⟨g8,0,none⟩) 32 32, .slice (some ⟨g9,0,none⟩) 32 32, .slice sb nb cb]) 24 ++ (ent (fF 5) ((if (fF 6).isSome=true then arr .u8 kl else arr .u8 zn)) 23)))) (by kernel_rfl) (by kernel_rfl) ?zt5 ?st5 ?et5
 case zt5=>exact ⟨fun _ h=>(by cases h),fun _ h=>(by cases h),fun _ h=>(by cases h),fun _ h=>(by cases h),fun _ h=>(by cases h),fun _ h=>(by cases h),HI22.out.drew⟩
 case st5 =>
  refine bH.cons (fun fF bF uF kF eZ jO lX bZ fD gJ=>?_) ?_
  ·obtain ⟨j0,j1,j2,j3,j4,j5,hB⟩:=eZ
   have e8:bF.eval (.tmp 8) = .pointer (some ⟨g8,0,none⟩):=fD.old' 8 (by kernel_rfl) rfl
   exact dY rfl (.slice (some ⟨g8,0,none⟩) 32 32) (by simp only [execOp,e8];first|rfl|(go_simp;done)) (gJ _ _ ⟨fun _ h=>⟨sI h,trivial⟩,j1,j2,j3,j4,j5,hB⟩)
  refine bH.cons (fun fF bF uF kF eZ jO lX bZ fD gJ=>?_) ?_
  ·obtain ⟨j0,j1,j2,j3,j4,j5,hB⟩:=eZ
   have e9:bF.eval (.tmp 9) = .pointer (some ⟨g9,0,none⟩):=fD.old' 9 (by kernel_rfl) rfl
   exact dY rfl (.slice (some ⟨g9,0,none⟩) 32 32) (by simp only [execOp,e9];first|rfl|(go_simp;done)) (gJ _ _ ⟨j0,fun _ h=>⟨sI h,trivial⟩,j2,j3,j4,j5,hB⟩)
  refine bH.cons (fun fF bF uF kF eZ jO lX bZ fD gJ=>?_) ?_
  ·obtain ⟨j0,j1,j2,j3,j4,j5,hB⟩:=eZ
   have e1:bF.eval (.tmp 1) = .slice sb nb cb:=fD.old' 1 (by kernel_rfl) rfl
   exact dY rfl (.slice sb nb cb) (by simp only [execOp,e1] <;> first|rfl|kernel_rfl|(go_simp;done)) (gJ _ _ ⟨j0,j1,fun _ h=>⟨sI h,trivial⟩,j3,j4,j5,hB⟩)
  refine bH.cons (fun fF bF uF kF eZ jO lX bZ fD gJ=>?_) ?_
  ·obtain ⟨j0,j1,j2,j3,j4,j5,hB⟩:=eZ
   obtain ⟨e28,p28⟩:=fD.at bZ 0 28 (by kernel_rfl) rfl j0
   obtain ⟨e29,p29⟩:=fD.at bZ 1 29 (by kernel_rfl) rfl j1
   obtain ⟨e30,p30⟩:=fD.at bZ 2 30 (by kernel_rfl) rfl j2
   have hB1:bM w (uF.alloc (.cells #[.slice (some ⟨g8,0,none⟩) 32 32, .slice (some ⟨g9,0,none⟩) 32 32, .slice sb nb cb] 24)) ([(w.heap.size,arr .u8 ks, 23),(w.heap.size+1,arr .u8 fP, 26),(gp,CW, 5),(g5,arr .u8 sp, 23),(g7,arr .u8 rl, 23),(g8,arr .u8 pl, 23),(g9,arr .u8 pk, 23)] ++ (ent ((some (.slice (some ⟨uF.heap.size,0,none⟩) 3 3):Option Value)) (#[.slice (some ⟨g8,0,none⟩) 32 32, .slice (some ⟨g9,0,none⟩) 32 32, .slice sb nb cb]) 24 ++ (ent (fF 5) ((if (fF 6).isSome=true then arr .u8 kl else arr .u8 zn)) 23))):=hB.ins (a:=[(w.heap.size,arr .u8 ks, 23),(w.heap.size+1,arr .u8 fP, 26),(gp,CW, 5),(g5,arr .u8 sp, 23),(g7,arr .u8 rl, 23),(g8,arr .u8 pl, 23),(g9,arr .u8 pk, 23)]) (b:=ent (fF 5) ((if (fF 6).isSome=true then arr .u8 kl else arr .u8 zn)) 23) _ _ (by rw [jO];simp only [uf,List.nil_append,List.append_nil,List.append_assoc,List.cons_append]) (by simp only [Rz,List.nil_append,List.append_nil,List.append_assoc,List.cons_append,Option.isSome_none,Bool.false_eq_true,if_false])
   rw [if_pos (by simp [Region.wanted])]
   unfold Oper.wp
   simp only [execOp,List.map_toArray,List.map_cons,List.map_nil,e28,e29,e30]
   generalize hX:Sem.run Tryd.prog _ uF=X
   have hrun:X = .ok (.value (.slice (some ⟨uF.heap.size,0,none⟩) 3 3)) (uF.alloc (.cells #[.slice (some ⟨g8,0,none⟩) 32 32, .slice (some ⟨g9,0,none⟩) 32 32, .slice sb nb cb] 24)):=by
    rw [← hX]
    first|rfl|kernel_rfl
   rw [hrun]
   exact gJ _ _ ⟨j0,j1,j2,fun _ h=>⟨_,sI h⟩,j4,j5,hB1⟩
  refine bH.cons (fun fF bF uF kF eZ jO lX bZ fD gJ=>?_) ?_
  ·obtain ⟨j0,j1,j2,j3,j4,j5,hB⟩:=eZ
   have y3:=bZ 3 (by kernel_rfl)
   obtain ⟨v3,s3⟩:=sE y3
   obtain ⟨lq,rfl⟩:=j3 _ s3
   have e31:=fD.val 3 31 rfl s3
   have hB':=hB
   rw [s3] at hB'
   have hsl:=Qq (hB'.get 7 rfl) (HSR1.out _ _ (hB'.get 5 rfl)) (Sl.bO (hB'.get 6 rfl) 32 HPKL.out) (Px.out.below hB.below) (Nat.le_refl _) (Nat.le_refl _) HCB.out
   refine fA rfl 61 [Operand.tmp 31] _ [.slice (some ⟨lq,0,none⟩) 3 3] rfl (by simp only [List.map_cons,List.map_nil,e31] <;> rfl) (fun _ _=>by kernel_rfl) ?_
   refine Calls.mono (HWD3.out _ _ hsl (ig vO.out hB.below) (HTQ.out.below hB.below)) ?_
   rintro e w1 ⟨rfl,hb⟩
   exact ⟨_,rfl,gJ _ _ ⟨j0,j1,j2,j3,fun _ h=>⟨sI h,trivial⟩,j5,hB.kept hb⟩⟩
  refine bH.cons (fun fF bF uF kF eZ jO lX bZ fD gJ=>?_) ?_
  ·obtain ⟨j0,j1,j2,j3,j4,j5,hB⟩:=eZ
   have n6:=lX.down 6 5 (by kernel_rfl) jO
   refine bg rfl 23 rfl _ (dx.out _) ?_
   have hB1:bM w (uF.alloc (.cells (arr .u8 zn) 23)) ([(w.heap.size,arr .u8 ks, 23),(w.heap.size+1,arr .u8 fP, 26),(gp,CW, 5),(g5,arr .u8 sp, 23),(g7,arr .u8 rl, 23),(g8,arr .u8 pl, 23),(g9,arr .u8 pk, 23)] ++ (ent (fF 3) (#[.slice (some ⟨g8,0,none⟩) 32 32, .slice (some ⟨g9,0,none⟩) 32 32, .slice sb nb cb]) 24 ++ (ent ((some (.pointer (some ⟨uF.heap.size,0,none⟩)):Option Value)) ((if (fF 6).isSome=true then arr .u8 kl else arr .u8 zn)) 23))):=hB.ins (a:=[(w.heap.size,arr .u8 ks, 23),(w.heap.size+1,arr .u8 fP, 26),(gp,CW, 5),(g5,arr .u8 sp, 23),(g7,arr .u8 rl, 23),(g8,arr .u8 pl, 23),(g9,arr .u8 pk, 23)] ++ ent (fF 3) (#[.slice (some ⟨g8,0,none⟩) 32 32, .slice (some ⟨g9,0,none⟩) 32 32, .slice sb nb cb]) 24) (b:=[]) _ _ (by rw [jO,n6];simp only [uf,List.nil_append,List.append_nil,List.append_assoc,List.cons_append]) (by rw [n6];simp only [zS,List.nil_append,List.append_nil,List.append_assoc,List.cons_append,Option.isSome_none,Bool.false_eq_true,if_false])
   exact gJ _ _ ⟨j0,j1,j2,j3,j4,fun _ h=>⟨_,sI h⟩,hB1⟩
  refine bH.cons (fun fF bF uF kF eZ jO lX bZ fD gJ=>?_) ?_
  ·obtain ⟨j0,j1,j2,j3,j4,j5,hB⟩:=eZ
   have y3:=bZ 3 (by kernel_rfl)
   obtain ⟨v3,s3⟩:=sE y3
   obtain ⟨lq,rfl⟩:=j3 _ s3
   have y5:=bZ 5 (by kernel_rfl)
   obtain ⟨v5,s5⟩:=sE y5
   obtain ⟨kg,rfl⟩:=j5 _ s5
   have e10:=fD.val 5 10 rfl s5
   obtain ⟨e32,p32⟩:=fD.at bZ 4 32 (by kernel_rfl) rfl j4
   have hB':=hB
   rw [s3,s5,jO] at hB'
   refine aD rfl 23 (.tmp 10) (.tmp 32) rfl (kg) (arr .u8 zn) _ 23 (hB'.get 8 rfl) e10 e32 (ay _ _ HKLL.out cB.out) (bE HKLL.out) (av _ _) ?_
   intro w1 hb1 hk1 hz1
   have hB1:bM w w1 ([(w.heap.size,arr .u8 ks, 23),(w.heap.size+1,arr .u8 fP, 26),(gp,CW, 5),(g5,arr .u8 sp, 23),(g7,arr .u8 rl, 23),(g8,arr .u8 pl, 23),(g9,arr .u8 pk, 23)] ++ (ent (fF 3) (#[.slice (some ⟨g8,0,none⟩) 32 32, .slice (some ⟨g9,0,none⟩) 32 32, .slice sb nb cb]) 24 ++ (ent (fF 5) ((if ((some undef:Option Value)).isSome=true then arr .u8 kl else arr .u8 zn)) 23))):=by rw [s3,s5];exact hB'.put 8 rfl hk1 hb1
   exact gJ undef w1 ⟨j0,j1,j2,j3,j4,j5,hB1⟩
  exact bH.nil
 case et5 =>
 intro fF ut5 hall eZ
 obtain ⟨j0,j1,j2,j3,j4,j5,hB⟩:=eZ
 obtain ⟨v0,h0⟩:=sE (hall 0 (by decide))
 obtain ⟨rfl,p0⟩:=j0 _ h0
 obtain ⟨v1,h1⟩:=sE (hall 1 (by decide))
 obtain ⟨rfl,p1⟩:=j1 _ h1
 obtain ⟨v2,h2⟩:=sE (hall 2 (by decide))
 obtain ⟨rfl,p2⟩:=j2 _ h2
 obtain ⟨v3,h3⟩:=sE (hall 3 (by decide))
 obtain ⟨lq,rfl⟩:=j3 _ h3
 obtain ⟨v4,h4⟩:=sE (hall 4 (by decide))
 obtain ⟨rfl,p4⟩:=j4 _ h4
 obtain ⟨v5,h5⟩:=sE (hall 5 (by decide))
 obtain ⟨kg,rfl⟩:=j5 _ h5
 obtain ⟨v6,h6⟩:=sE (hall 6 (by decide))
 rw [h3,h5,h6] at hB
 have HBt5:Hid (bM w ut5 [(w.heap.size,arr .u8 ks, 23),(w.heap.size+1,arr .u8 fP, 26),(gp,CW, 5),(g5,arr .u8 sp, 23),(g7,arr .u8 rl, 23),(g8,arr .u8 pl, 23),(g9,arr .u8 pk, 23),(lq, #[.slice (some ⟨g8,0,none⟩) 32 32, .slice (some ⟨g9,0,none⟩) 32 32, .slice sb nb cb], 24),(kg,arr .u8 kl, 23)]):=Lib.hid hB
 simp only [laid,Nat.zero_add,Nat.reduceAdd,h0,h1,h2,h3,h4,h5,h6,Act.put,sA,sZ,sS]
 clear j0 j1 j2 j3 j4 j5 hB h0 h1 h2 h3 h4 h5 h6 hall fF HI22
 clear p0 p1 p2 p4
 (try simp only [Exit.then])
 go_upto_region 6 with fail
 (try simp only [World.size_alloc,Act.put,sA,sZ,sS])
 refine gL (fun (fF:Fill) (uF:World)=>(∀ v,fF 0=some v→v = .agg (arr .u8 rl)∧True)∧(∀ v,fF 1=some v→v = .agg (arr .u8 kl)∧True)∧(∀ v,fF 2=some v→v = .agg (arr .u8 sp)∧True)∧(∀ v,fF 3=some v→v = .agg (arr .u8 ml)∧True)∧(∀ v,fF 4=some v→v = .agg (arr .u8 sl)∧True)∧(∀ v,fF 5=some v→∃ g:Nat,v = .pointer (some ⟨g,0,none⟩))∧bM w uF ([(w.heap.size,arr .u8 ks, 23),(w.heap.size+1,arr .u8 fP, 26),(gp,CW, 5),(g5,arr .u8 sp, 23),(g7,arr .u8 rl, 23),(g8,arr .u8 pl, 23),(g9,arr .u8 pk, 23),(lq, #[.slice (some ⟨g8,0,none⟩) 32 32, .slice (some ⟨g9,0,none⟩) 32 32, .slice sb nb cb], 24),(kg,arr .u8 kl, 23)] ++ (ent (fF 5) ((if (fF 6).isSome=true then arr .u8 sl else arr .u8 zn)) 23))) (by kernel_rfl) (by kernel_rfl) ?zt6 ?st6 ?et6
 case zt6=>exact ⟨fun _ h=>(by cases h),fun _ h=>(by cases h),fun _ h=>(by cases h),fun _ h=>(by cases h),fun _ h=>(by cases h),fun _ h=>(by cases h),HBt5.out.drew⟩
 case st6 =>
  refine bH.cons (fun fF bF uF kF eZ jO lX bZ fD gJ=>?_) ?_
  ·obtain ⟨j0,j1,j2,j3,j4,j5,hB⟩:=eZ
   have e7:bF.eval (.tmp 7) = .pointer (some ⟨g7,0,none⟩):=fD.old' 7 (by kernel_rfl) rfl
   have hB':=hB
   refine eO rfl 23 _ rfl (g7) (0) (arr .u8 rl) 23 (0,0) _ (hB'.get 4 rfl) e7 .u8 rl (au _ _) Tryd.underlying23 rfl (bU HRLL.out) ?_
   exact gJ _ _ ⟨fun _ h=>⟨sI h,trivial⟩,j1,j2,j3,j4,j5,hB⟩
  refine bH.cons (fun fF bF uF kF eZ jO lX bZ fD gJ=>?_) ?_
  ·obtain ⟨j0,j1,j2,j3,j4,j5,hB⟩:=eZ
   have e10:bF.eval (.tmp 10) = .pointer (some ⟨kg,0,none⟩):=fD.old' 10 (by kernel_rfl) rfl
   have hB':=hB
   refine eO rfl 23 _ rfl (kg) (0) (arr .u8 kl) 23 (0,0) _ (hB'.get 8 rfl) e10 .u8 kl (au _ _) Tryd.underlying23 rfl (bU HKLL.out) ?_
   exact gJ _ _ ⟨j0,fun _ h=>⟨sI h,trivial⟩,j2,j3,j4,j5,hB⟩
  refine bH.cons (fun fF bF uF kF eZ jO lX bZ fD gJ=>?_) ?_
  ·obtain ⟨j0,j1,j2,j3,j4,j5,hB⟩:=eZ
   have e5:bF.eval (.tmp 5) = .pointer (some ⟨g5,0,none⟩):=fD.old' 5 (by kernel_rfl) rfl
   have hB':=hB
   refine eO rfl 23 _ rfl (g5) (0) (arr .u8 sp) 23 (0,0) _ (hB'.get 3 rfl) e5 .u8 sp (au _ _) Tryd.underlying23 rfl (bU Aj.out) ?_
   exact gJ _ _ ⟨j0,j1,fun _ h=>⟨sI h,trivial⟩,j3,j4,j5,hB⟩
  refine bH.cons (fun fF bF uF kF eZ jO lX bZ fD gJ=>?_) ?_
  ·obtain ⟨j0,j1,j2,j3,j4,j5,hB⟩:=eZ
   obtain ⟨e34,p34⟩:=fD.at bZ 1 34 (by kernel_rfl) rfl j1
   obtain ⟨e35,p35⟩:=fD.at bZ 2 35 (by kernel_rfl) rfl j2
   refine fA rfl 63 [Operand.tmp 34,Operand.tmp 35] _ [.agg (arr .u8 kl), .agg (arr .u8 sp)] rfl (by simp only [List.map_cons,List.map_nil,e34,e35] <;> rfl) (fun _ _=>by kernel_rfl) ?_
   refine Calls.mono (HMUL.out _ (HTQ.out.below hB.below)) ?_
   rintro e w1 ⟨rfl,hb⟩
   exact ⟨_,rfl,gJ _ _ ⟨j0,j1,j2,fun _ h=>⟨sI h,trivial⟩,j4,j5,hB.kept hb⟩⟩
  refine bH.cons (fun fF bF uF kF eZ jO lX bZ fD gJ=>?_) ?_
  ·obtain ⟨j0,j1,j2,j3,j4,j5,hB⟩:=eZ
   obtain ⟨e33,p33⟩:=fD.at bZ 0 33 (by kernel_rfl) rfl j0
   obtain ⟨e36,p36⟩:=fD.at bZ 3 36 (by kernel_rfl) rfl j3
   refine fA rfl 62 [Operand.tmp 33,Operand.tmp 36] _ [.agg (arr .u8 rl), .agg (arr .u8 ml)] rfl (by simp only [List.map_cons,List.map_nil,e33,e36] <;> rfl) (fun _ _=>by kernel_rfl) ?_
   refine Calls.mono (HADD.out _ (HTQ.out.below hB.below)) ?_
   rintro e w1 ⟨rfl,hb⟩
   exact ⟨_,rfl,gJ _ _ ⟨j0,j1,j2,j3,fun _ h=>⟨sI h,trivial⟩,j5,hB.kept hb⟩⟩
  refine bH.cons (fun fF bF uF kF eZ jO lX bZ fD gJ=>?_) ?_
  ·obtain ⟨j0,j1,j2,j3,j4,j5,hB⟩:=eZ
   have n6:=lX.down 6 5 (by kernel_rfl) jO
   refine bg rfl 23 rfl _ (dx.out _) ?_
   have hB1:bM w (uF.alloc (.cells (arr .u8 zn) 23)) ([(w.heap.size,arr .u8 ks, 23),(w.heap.size+1,arr .u8 fP, 26),(gp,CW, 5),(g5,arr .u8 sp, 23),(g7,arr .u8 rl, 23),(g8,arr .u8 pl, 23),(g9,arr .u8 pk, 23),(lq, #[.slice (some ⟨g8,0,none⟩) 32 32, .slice (some ⟨g9,0,none⟩) 32 32, .slice sb nb cb], 24),(kg,arr .u8 kl, 23)] ++ (ent ((some (.pointer (some ⟨uF.heap.size,0,none⟩)):Option Value)) ((if (fF 6).isSome=true then arr .u8 sl else arr .u8 zn)) 23)):=hB.ins (a:=[(w.heap.size,arr .u8 ks, 23),(w.heap.size+1,arr .u8 fP, 26),(gp,CW, 5),(g5,arr .u8 sp, 23),(g7,arr .u8 rl, 23),(g8,arr .u8 pl, 23),(g9,arr .u8 pk, 23),(lq, #[.slice (some ⟨g8,0,none⟩) 32 32, .slice (some ⟨g9,0,none⟩) 32 32, .slice sb nb cb], 24),(kg,arr .u8 kl, 23)]) (b:=[]) _ _ (by rw [jO,n6];simp only [uf,List.nil_append,List.append_nil,List.append_assoc,List.cons_append]) (by rw [n6];simp only [zS,List.nil_append,List.append_nil,List.append_assoc,List.cons_append,Option.isSome_none,Bool.false_eq_true,if_false])
   exact gJ _ _ ⟨j0,j1,j2,j3,j4,fun _ h=>⟨_,sI h⟩,hB1⟩
  refine bH.cons (fun fF bF uF kF eZ jO lX bZ fD gJ=>?_) ?_
  ·obtain ⟨j0,j1,j2,j3,j4,j5,hB⟩:=eZ
   have y5:=bZ 5 (by kernel_rfl)
   obtain ⟨v5,s5⟩:=sE y5
   obtain ⟨mJ,rfl⟩:=j5 _ s5
   have e11:=fD.val 5 11 rfl s5
   obtain ⟨e37,p37⟩:=fD.at bZ 4 37 (by kernel_rfl) rfl j4
   have hB':=hB
   rw [s5,jO] at hB'
   refine aD rfl 23 (.tmp 11) (.tmp 37) rfl (mJ) (arr .u8 zn) _ 23 (hB'.get 9 rfl) e11 e37 (ay _ _ Z7.out cB.out) (bE Z7.out) (av _ _) ?_
   intro w1 hb1 hk1 hz1
   have hB1:bM w w1 ([(w.heap.size,arr .u8 ks, 23),(w.heap.size+1,arr .u8 fP, 26),(gp,CW, 5),(g5,arr .u8 sp, 23),(g7,arr .u8 rl, 23),(g8,arr .u8 pl, 23),(g9,arr .u8 pk, 23),(lq, #[.slice (some ⟨g8,0,none⟩) 32 32, .slice (some ⟨g9,0,none⟩) 32 32, .slice sb nb cb], 24),(kg,arr .u8 kl, 23)] ++ (ent (fF 5) ((if ((some undef:Option Value)).isSome=true then arr .u8 sl else arr .u8 zn)) 23)):=by rw [s5];exact hB'.put 9 rfl hk1 hb1
   exact gJ undef w1 ⟨j0,j1,j2,j3,j4,j5,hB1⟩
  exact bH.nil
 case et6 =>
 intro fF ut6 hall eZ
 obtain ⟨j0,j1,j2,j3,j4,j5,hB⟩:=eZ
 obtain ⟨v0,h0⟩:=sE (hall 0 (by decide))
 obtain ⟨rfl,p0⟩:=j0 _ h0
 obtain ⟨v1,h1⟩:=sE (hall 1 (by decide))
 obtain ⟨rfl,p1⟩:=j1 _ h1
 obtain ⟨v2,h2⟩:=sE (hall 2 (by decide))
 obtain ⟨rfl,p2⟩:=j2 _ h2
 obtain ⟨v3,h3⟩:=sE (hall 3 (by decide))
 obtain ⟨rfl,p3⟩:=j3 _ h3
 obtain ⟨v4,h4⟩:=sE (hall 4 (by decide))
 obtain ⟨rfl,p4⟩:=j4 _ h4
 obtain ⟨v5,h5⟩:=sE (hall 5 (by decide))
 obtain ⟨mJ,rfl⟩:=j5 _ h5
 obtain ⟨v6,h6⟩:=sE (hall 6 (by decide))
 rw [h5,h6] at hB
 have HBt6:Hid (bM w ut6 [(w.heap.size,arr .u8 ks, 23),(w.heap.size+1,arr .u8 fP, 26),(gp,CW, 5),(g5,arr .u8 sp, 23),(g7,arr .u8 rl, 23),(g8,arr .u8 pl, 23),(g9,arr .u8 pk, 23),(lq, #[.slice (some ⟨g8,0,none⟩) 32 32, .slice (some ⟨g9,0,none⟩) 32 32, .slice sb nb cb], 24),(kg,arr .u8 kl, 23),(mJ,arr .u8 sl, 23)]):=Lib.hid hB
 simp only [laid,Nat.zero_add,Nat.reduceAdd,h0,h1,h2,h3,h4,h5,h6,Act.put,sA,sZ,sS]
 clear j0 j1 j2 j3 j4 j5 hB h0 h1 h2 h3 h4 h5 h6 hall fF HBt5
 clear p0 p1 p2 p3 p4
 (try simp only [Exit.then])
 go_upto_region 8 with (first|((with_reducible refine aS 12 ?_);refine aj rfl 26 rfl _ (vL.out _) ?_;have HI30:=Lib.hid (HBt6.out.alloc (arr .u8 fP) 26);generalize ut6.heap.size=g12 at HI30 ⊢; generalize ut6.alloc (.cells (arr .u8 fP) 26)=w30 at HI30 ⊢))
 (try simp only [World.size_alloc,Act.put,sA,sZ,sS])
 refine gL (fun (fF:Fill) (uF:World)=>(∀ v,fF 0=some v→v = .slice (some ⟨g12,0,none⟩) 32 64∧True)∧(∀ v,fF 1=some v→v = .slice (some ⟨g8,0,none⟩) 32 32∧True)∧(∀ v,fF 2=some v→v = .int .i64 ((32:Nat):Int)∧True)∧bM w uF ([(w.heap.size,arr .u8 ks, 23),(w.heap.size+1,arr .u8 fP, 26),(gp,CW, 5),(g5,arr .u8 sp, 23),(g7,arr .u8 rl, 23),(g8,arr .u8 pl, 23),(g9,arr .u8 pk, 23),(lq, #[.slice (some ⟨g8,0,none⟩) 32 32, .slice (some ⟨g9,0,none⟩) 32 32, .slice sb nb cb], 24),(kg,arr .u8 kl, 23),(mJ,arr .u8 sl, 23),(g12,(if (fF 2).isSome=true then arr .u8 m1 else arr .u8 fP), 26)])) (by kernel_rfl) (by kernel_rfl) ?zt8 ?st8 ?et8
 case zt8=>exact ⟨fun _ h=>(by cases h),fun _ h=>(by cases h),fun _ h=>(by cases h),HI30.out.drew⟩
 case st8 =>
  refine bH.cons (fun fF bF uF kF eZ jO lX bZ fD gJ=>?_) ?_
  ·obtain ⟨j0,j1,j2,hB⟩:=eZ
   have e12:bF.eval (.tmp 12) = .pointer (some ⟨g12,0,none⟩):=fD.old' 12 (by kernel_rfl) rfl
   exact dY rfl (.slice (some ⟨g12,0,none⟩) 32 64) (by simp only [execOp,e12];first|rfl|(go_simp;done)) (gJ _ _ ⟨fun _ h=>⟨sI h,trivial⟩,j1,j2,hB⟩)
  refine bH.cons (fun fF bF uF kF eZ jO lX bZ fD gJ=>?_) ?_
  ·obtain ⟨j0,j1,j2,hB⟩:=eZ
   have e8:bF.eval (.tmp 8) = .pointer (some ⟨g8,0,none⟩):=fD.old' 8 (by kernel_rfl) rfl
   exact dY rfl (.slice (some ⟨g8,0,none⟩) 32 32) (by simp only [execOp,e8];first|rfl|(go_simp;done)) (gJ _ _ ⟨j0,fun _ h=>⟨sI h,trivial⟩,j2,hB⟩)
  refine bH.cons (fun fF bF uF kF eZ jO lX bZ fD gJ=>?_) ?_
  ·obtain ⟨j0,j1,j2,hB⟩:=eZ
   obtain ⟨e38,p38⟩:=fD.at bZ 0 38 (by kernel_rfl) rfl j0
   obtain ⟨e39,p39⟩:=fD.at bZ 1 39 (by kernel_rfl) rfl j1
   have hB':=hB
   rw [jO] at hB'
   refine uS rfl (.tmp 38) (.tmp 39) rfl g12 0 32 64 32 ⟨g8,0,none⟩ fP pl 26 e38 e39 (hB'.get 10 rfl) (HSR1.out _ _ (hB'.get 5 rfl)) (by rw [rY.out];decide) ?_
   rw [F5.out]
   intro w1 hb1 hk1
   have hB1:bM w w1 ([(w.heap.size,arr .u8 ks, 23),(w.heap.size+1,arr .u8 fP, 26),(gp,CW, 5),(g5,arr .u8 sp, 23),(g7,arr .u8 rl, 23),(g8,arr .u8 pl, 23),(g9,arr .u8 pk, 23),(lq, #[.slice (some ⟨g8,0,none⟩) 32 32, .slice (some ⟨g9,0,none⟩) 32 32, .slice sb nb cb], 24),(kg,arr .u8 kl, 23),(mJ,arr .u8 sl, 23),(g12,(if ((some (.int .i64 ((32:Nat):Int)):Option Value)).isSome=true then arr .u8 m1 else arr .u8 fP), 26)]):=hB'.put 10 rfl hk1 hb1
   exact gJ _ _ ⟨j0,j1,fun _ h=>⟨sI h,trivial⟩,hB1⟩
  exact bH.nil
 case et8 =>
 intro fF ut8 hall eZ
 obtain ⟨j0,j1,j2,hB⟩:=eZ
 obtain ⟨v0,h0⟩:=sE (hall 0 (by decide))
 obtain ⟨rfl,p0⟩:=j0 _ h0
 obtain ⟨v1,h1⟩:=sE (hall 1 (by decide))
 obtain ⟨rfl,p1⟩:=j1 _ h1
 obtain ⟨v2,h2⟩:=sE (hall 2 (by decide))
 obtain ⟨rfl,p2⟩:=j2 _ h2
 rw [h2] at hB
 have HBt8:Hid (bM w ut8 [(w.heap.size,arr .u8 ks, 23),(w.heap.size+1,arr .u8 fP, 26),(gp,CW, 5),(g5,arr .u8 sp, 23),(g7,arr .u8 rl, 23),(g8,arr .u8 pl, 23),(g9,arr .u8 pk, 23),(lq, #[.slice (some ⟨g8,0,none⟩) 32 32, .slice (some ⟨g9,0,none⟩) 32 32, .slice sb nb cb], 24),(kg,arr .u8 kl, 23),(mJ,arr .u8 sl, 23),(g12,arr .u8 m1, 26)]):=Lib.hid hB
 simp only [laid,Nat.zero_add,Nat.reduceAdd,h0,h1,h2,Act.put,sA,sZ,sS]
 clear j0 j1 j2 hB h0 h1 h2 hall fF HI30
 clear p0 p1 p2
 (try simp only [Exit.then])
 go_upto_region 9 with fail
 (try simp only [World.size_alloc,Act.put,sA,sZ,sS])
 refine gL (fun (fF:Fill) (uF:World)=>(∀ v,fF 0=some v→v = .slice (some ⟨g12,32,none⟩) 32 32∧True)∧(∀ v,fF 1=some v→v = .slice (some ⟨mJ,0,none⟩) 32 32∧True)∧(∀ v,fF 2=some v→v = .int .i64 ((32:Nat):Int)∧True)∧bM w uF ([(w.heap.size,arr .u8 ks, 23),(w.heap.size+1,arr .u8 fP, 26),(gp,CW, 5),(g5,arr .u8 sp, 23),(g7,arr .u8 rl, 23),(g8,arr .u8 pl, 23),(g9,arr .u8 pk, 23),(lq, #[.slice (some ⟨g8,0,none⟩) 32 32, .slice (some ⟨g9,0,none⟩) 32 32, .slice sb nb cb], 24),(kg,arr .u8 kl, 23),(mJ,arr .u8 sl, 23),(g12,(if (fF 2).isSome=true then arr .u8 res else arr .u8 m1), 26)])) (by kernel_rfl) (by kernel_rfl) ?zt9 ?st9 ?et9
 case zt9=>exact ⟨fun _ h=>(by cases h),fun _ h=>(by cases h),fun _ h=>(by cases h),HBt8.out.drew⟩
 case st9 =>
  refine bH.cons (fun fF bF uF kF eZ jO lX bZ fD gJ=>?_) ?_
  ·obtain ⟨j0,j1,j2,hB⟩:=eZ
   have e12:bF.eval (.tmp 12) = .pointer (some ⟨g12,0,none⟩):=fD.old' 12 (by kernel_rfl) rfl
   exact dY rfl (.slice (some ⟨g12,32,none⟩) 32 32) (by simp only [execOp,e12];first|rfl|(go_simp;done)) (gJ _ _ ⟨fun _ h=>⟨sI h,trivial⟩,j1,j2,hB⟩)
  refine bH.cons (fun fF bF uF kF eZ jO lX bZ fD gJ=>?_) ?_
  ·obtain ⟨j0,j1,j2,hB⟩:=eZ
   have e11:bF.eval (.tmp 11) = .pointer (some ⟨mJ,0,none⟩):=fD.old' 11 (by kernel_rfl) rfl
   exact dY rfl (.slice (some ⟨mJ,0,none⟩) 32 32) (by simp only [execOp,e11];first|rfl|(go_simp;done)) (gJ _ _ ⟨j0,fun _ h=>⟨sI h,trivial⟩,j2,hB⟩)
  refine bH.cons (fun fF bF uF kF eZ jO lX bZ fD gJ=>?_) ?_
  ·obtain ⟨j0,j1,j2,hB⟩:=eZ
   obtain ⟨e41,p41⟩:=fD.at bZ 0 41 (by kernel_rfl) rfl j0
   obtain ⟨e42,p42⟩:=fD.at bZ 1 42 (by kernel_rfl) rfl j1
   have hB':=hB
   rw [jO] at hB'
   refine uS rfl (.tmp 41) (.tmp 42) rfl g12 32 32 32 32 ⟨mJ,0,none⟩ m1 sl 26 e41 e42 (hB'.get 10 rfl) (HSR2.out _ _ (hB'.get 9 rfl)) (by rw [HM1L.out];decide) ?_
   rw [PD.out]
   intro w1 hb1 hk1
   have hB1:bM w w1 ([(w.heap.size,arr .u8 ks, 23),(w.heap.size+1,arr .u8 fP, 26),(gp,CW, 5),(g5,arr .u8 sp, 23),(g7,arr .u8 rl, 23),(g8,arr .u8 pl, 23),(g9,arr .u8 pk, 23),(lq, #[.slice (some ⟨g8,0,none⟩) 32 32, .slice (some ⟨g9,0,none⟩) 32 32, .slice sb nb cb], 24),(kg,arr .u8 kl, 23),(mJ,arr .u8 sl, 23),(g12,(if ((some (.int .i64 ((32:Nat):Int)):Option Value)).isSome=true then arr .u8 res else arr .u8 m1), 26)]):=hB'.put 10 rfl hk1 hb1
   exact gJ _ _ ⟨j0,j1,fun _ h=>⟨sI h,trivial⟩,hB1⟩
  exact bH.nil
 case et9 =>
 intro fF ut9 hall eZ
 obtain ⟨j0,j1,j2,hB⟩:=eZ
 obtain ⟨v0,h0⟩:=sE (hall 0 (by decide))
 obtain ⟨rfl,p0⟩:=j0 _ h0
 obtain ⟨v1,h1⟩:=sE (hall 1 (by decide))
 obtain ⟨rfl,p1⟩:=j1 _ h1
 obtain ⟨v2,h2⟩:=sE (hall 2 (by decide))
 obtain ⟨rfl,p2⟩:=j2 _ h2
 rw [h2] at hB
 have HBt9:Hid (bM w ut9 [(w.heap.size,arr .u8 ks, 23),(w.heap.size+1,arr .u8 fP, 26),(gp,CW, 5),(g5,arr .u8 sp, 23),(g7,arr .u8 rl, 23),(g8,arr .u8 pl, 23),(g9,arr .u8 pk, 23),(lq, #[.slice (some ⟨g8,0,none⟩) 32 32, .slice (some ⟨g9,0,none⟩) 32 32, .slice sb nb cb], 24),(kg,arr .u8 kl, 23),(mJ,arr .u8 sl, 23),(g12,arr .u8 res, 26)]):=Lib.hid hB
 simp only [laid,Nat.zero_add,Nat.reduceAdd,h0,h1,h2,Act.put,sA,sZ,sS]
 clear j0 j1 j2 hB h0 h1 h2 hall fF HBt8
 clear p0 p1 p2
 (try simp only [Exit.then])
 go_wp2_with (first|((with_reducible refine aS 44 ?_);refine ak rfl 26 _ rfl (g12) 0 _ 26 (0,0) _ (HBt9.out.get 10 rfl) rfl .u8 res (au _ _) Tryd.underlying26 rfl (Sl.sig_i Py.out) ?_)|((with_reducible refine aT 4 ?_);refine ah rfl 26 _ _ rfl (w.heap.size+1) _ _ 26 (HBt9.out.get 1 rfl) rfl rfl (ay _ _ Py.out rY.out) (Sl.kS Py.out) (av _ _) ?_;intro w40 hb40 hk40 hz40;have HI40:=Lib.hid (HBt9.out.put 1 rfl hk40 hb40);clear hb40 hk40 hz40))
 (try simp only [Exit.then])
 refine bodyPost_ret (results_cell_row rfl _ _ (w.heap.size+1) 26 _ (0,0) _ rfl (HI40.out.get 1 rfl) Tryd.underlying26 rfl (Sl.kS Py.out)) rfl ?_
 exact ⟨rfl,HI40.out.below⟩
end Go.Proofs.YthdgbgleklkaiaaDoor.Rd
namespace Go.Proofs.YthdgbgleklkaiaaDoor.Ce
open Go.RowKit Lm Fp Cu Sl Sc
structure Mk (w:World):Prop extends TabP w where
 q:Rd.mP w
theorem Mk.below {u u':World} (h:Mk u) (b:Below u.heap.size u u'):Mk u':=⟨h.toTabP.below b,yF h.q b⟩
theorem TabV.s {u:World} (h:TabV u):Mk u:=⟨h.toTabP,h.q⟩
end Go.Proofs.YthdgbgleklkaiaaDoor.Ce
