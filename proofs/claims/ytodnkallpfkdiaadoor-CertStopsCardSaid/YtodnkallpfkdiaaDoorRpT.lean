/- The document's Sign: what it answers. Condition: 32 bytes; a text of the call's size; the tables hold what their text lays. -/
import Derived.Test.YtodnkallpfkdiaaDoorRw
set_option maxRecDepth 100000
set_option maxHeartbeats 16000000
set_option linter.unusedSimpArgs false
set_option linter.unusedVariables false
namespace Go.Proofs.YtodnkallpfkdiaaDoor.Rd
open Go.RowKit Lm Fp Cu Sc
theorem rsign_any {bs:List Int} (seed:Nat) (sb:Option Addr) (nb cb:Nat) (w:World) (hB:Src w sb nb bs) (hcb:nb≤cb) (bB:bytes bs) (hN:nb≤1000000000)
  (hTd:TabD w) (hTX:TabX w) (hTY:TabY w) (hTQ:TabQ w) (hTK:Hb.TabK w) :
  Calls Tryd.prog 57 #[.agg (arr .u8 (n32 seed)), .slice sb nb cb] w fun e w'=>e = .returned (.agg (arr .u8 (esign seed bs)))∧Below w.heap.size w w':=by
 have hsrl:(srest seed).length=32:=by unfold srest;rw [List.length_drop,Hb.hash_len]
 have hsrb:bytes (srest seed):=bytes_drop (hash_bytes' (n32 seed)) 32
 have hpa:=fun (u:World) (h:Hb.TabK u)=>rparts_any seed u h
 have hpu:=fun (u:World) (h1:TabD u) (h2:TabX u) (h3:TabY u) (h4:Hb.TabK u)=>rpublic_any seed u h1 h2 h3 h4
 have hw2:∀ (g:Nat) (u:World),SrcL u (some ⟨g,0,none⟩) 2 [srest seed,bs]→Hb.TabK u→TabQ u→Calls Tryd.prog 89 #[.slice (some ⟨g,0,none⟩) 2 2] u fun e w'=>e = .returned (.agg (arr .u8 (n32 (wide (srest seed ++ bs)))))∧Below u.heap.size u w':=by
  intro g u h1 h2 h3
  have:=wide_any (some ⟨g,0,none⟩) 2 2 [srest seed,bs] u h1 (by intro l h;simp only [List.mem_cons,List.not_mem_nil,or_false] at h;rcases h with rfl|rfl;exact hsrb;exact bB) (by rw [show ([srest seed,bs]:List (List Int)).flatten=srest seed ++ bs by simp,List.length_append,hsrl,hB.len];omega) (by decide) h2 h3
  rwa [show ([srest seed,bs]:List (List Int)).flatten=srest seed ++ bs by simp] at this
 have hw3:∀ (r k g:Nat) (u:World),SrcL u (some ⟨g,0,none⟩) 3 [n32 r,n32 k,bs]→Hb.TabK u→TabQ u→Calls Tryd.prog 89 #[.slice (some ⟨g,0,none⟩) 3 3] u fun e w'=>e = .returned (.agg (arr .u8 (n32 (wide (n32 r ++ (n32 k ++ bs))))))∧Below u.heap.size u w':=by
  intro r k g u h1 h2 h3
  have:=wide_any (some ⟨g,0,none⟩) 3 3 [n32 r,n32 k,bs] u h1 (by intro l h;simp only [List.mem_cons,List.not_mem_nil,or_false] at h;rcases h with rfl|rfl|rfl;exact n32_bytes _;exact n32_bytes _;exact bB) (by rw [show ([n32 r,n32 k,bs]:List (List Int)).flatten=n32 r ++ (n32 k ++ bs) by simp,List.length_append,List.length_append,n32_len,n32_len,hB.len];omega) (by decide) h2 h3
  rwa [show ([n32 r,n32 k,bs]:List (List Int)).flatten=n32 r ++ (n32 k ++ bs) by simp] at this
 have hes:esign seed bs=n32 (esignR seed bs) ++ n32 (esignS seed bs):=rfl
 obtain ⟨RR,hRR⟩:∃ r,r=wide (srest seed ++ bs):=⟨_,rfl⟩
 have hRL:RR < 256 ^ 32:=by rw [hRR];exact Nat.lt_trans (Nat.mod_lt _ q_pos) q_lt32
 have hR:esignR seed bs=ebytes (emul base RR 256):=by rw [hRR];rfl
 have hS:esignS seed bs=(RR+wide (n32 (esignR seed bs) ++ (n32 (epub seed) ++ bs)) * spart seed % q) % q:=by rw [hRR];rfl
 have hmany:=fun (ps:List Int) (P:Pt) (u:World) (h1:PtEl ps P) (h2:TabD u)=>many_any ps P RR u h1 h2
 have hw1:=fun (ps:List Int) (u:World) (h:PtEl ps (emul base RR 256))=>written_any ps _ u h
 rw [← hR] at hw1
 have hspl:spart seed < 256 ^ 32:=by
  have:=Nat.mod_lt (hnum ((Hb.hash (n32 seed)).take 32) / 8 * 8) (show 2 ^ 254 > 0 by decide)
  show _ / 8 * 8 % 2 ^ 254+2 ^ 254 < 256 ^ 32
  rw [show (256:Nat) ^ 32=2 ^ 256 by decide]
  omega
 obtain ⟨R,hRe⟩:∃ r,r=esignR seed bs:=⟨_,rfl⟩
 obtain ⟨PK,hPK⟩:∃ r,r=epub seed:=⟨_,rfl⟩
 obtain ⟨SP,hSP⟩:∃ x,x=spart seed:=⟨_,rfl⟩
 obtain ⟨sr,hsr⟩:∃ x,x=srest seed:=⟨_,rfl⟩
 rw [← hRe,← hPK,← hSP] at hS
 rw [hS,← hRe] at hes
 rw [← hRe] at hw1
 rw [← hRR,← hsr] at hw2
 rw [← hsr] at hsrl
 rw [← hsr,← hSP] at hpa
 rw [← hSP] at hspl
 rw [← hPK] at hpu
 have hw3':=hw3 R PK
 obtain ⟨KK,hKK⟩:∃ k,k=wide (n32 R ++ (n32 PK ++ bs)):=⟨_,rfl⟩
 rw [← hKK] at hw3' hes
 have hKL:KK < 256 ^ 32:=by rw [hKK];exact Nat.lt_trans (Nat.mod_lt _ q_pos) q_lt32
 have hmul:=fun (u:World) (h:TabQ u)=>mulq_any KK SP u hKL hspl h
 have hadd:=fun (u:World) (h:TabQ u)=>addq_any RR (KK * SP % q) u hRL (Nat.lt_trans (Nat.mod_lt _ q_pos) q_lt32) h
 obtain ⟨pl,hpl⟩:∃ x,x=n32 R:=⟨_,rfl⟩
 obtain ⟨pk,hpk⟩:∃ x,x=n32 PK:=⟨_,rfl⟩
 obtain ⟨sp,hsp⟩:∃ x,x=n32 SP:=⟨_,rfl⟩
 obtain ⟨rl,hrl⟩:∃ x,x=n32 RR:=⟨_,rfl⟩
 obtain ⟨kl,hkl⟩:∃ x,x=n32 KK:=⟨_,rfl⟩
 obtain ⟨ml,hml⟩:∃ x,x=n32 (KK * SP % q):=⟨_,rfl⟩
 obtain ⟨sl,hsl⟩:∃ x,x=n32 ((RR+KK * SP % q) % q):=⟨_,rfl⟩
 obtain ⟨ks,hks⟩:∃ x,x=n32 seed:=⟨_,rfl⟩
 rw [show nar (dig 256 32 R)=n32 R from rfl,← hpl] at hw1
 rw [show nar (dig 256 32 RR)=n32 RR from rfl,← hrl] at hmany
 rw [show nar (dig 256 32 KK)=n32 KK from rfl,show nar (dig 256 32 SP)=n32 SP from rfl,show nar (dig 256 32 (KK * SP % q))=n32 (KK * SP % q) from rfl,← hkl,← hsp,← hml] at hmul
 rw [show nar (dig 256 32 RR)=n32 RR from rfl,show nar (dig 256 32 (KK * SP % q))=n32 (KK * SP % q) from rfl,show nar (dig 256 32 ((RR+KK * SP % q) % q))=n32 ((RR+KK * SP % q) % q) from rfl,← hrl,← hml,← hsl] at hadd
 rw [← hsl,← hpl] at hes
 rw [← hrl] at hw2
 rw [← hpl,← hpk,← hkl] at hw3'
 rw [← hsp,← hks] at hpa
 rw [← hpk,← hks] at hpu
 rw [← hks]
 have HPLL:Hid (pl.length=32):=Lib.hid (by rw [hpl];exact n32_len _)
 have HPKL:Hid (pk.length=32):=Lib.hid (by rw [hpk];exact n32_len _)
 have HSPL:Hid (sp.length=32):=Lib.hid (by rw [hsp];exact n32_len _)
 have HRLL:Hid (rl.length=32):=Lib.hid (by rw [hrl];exact n32_len _)
 have HKLL:Hid (kl.length=32):=Lib.hid (by rw [hkl];exact n32_len _)
 have HMLL:Hid (ml.length=32):=Lib.hid (by rw [hml];exact n32_len _)
 have HSLL:Hid (sl.length=32):=Lib.hid (by rw [hsl];exact n32_len _)
 have HKSL:Hid (ks.length=32):=Lib.hid (by rw [hks];exact n32_len _)
 have hes':=hes
 obtain ⟨res,hres⟩:∃ r,r=esign seed bs:=⟨_,rfl⟩
 rw [← hres] at hes' ⊢
 have HRESL:Hid (res.length=64):=Lib.hid (by rw [hes',List.length_append,HPLL.out,HSLL.out])
 obtain ⟨zn,hzn⟩:∃ zs:List Int,zs=List.replicate 32 0:=⟨_,rfl⟩
 have HZzn:Hid (∀ w,(zeroValue 23).run Tryd.prog w = .ok (.agg (arr .u8 zn)) w):=Lib.hid (by intro w;rw [hzn];exact zero_num w)
 have HLzn:Hid (zn.length=32):=Lib.hid (by rw [hzn];rfl)
 obtain ⟨zs64,hzs64⟩:∃ zs:List Int,zs=List.replicate 64 0:=⟨_,rfl⟩
 have HZzs64:Hid (∀ w,(zeroValue 26).run Tryd.prog w = .ok (.agg (arr .u8 zs64)) w):=Lib.hid (by intro w;rw [hzs64];exact Sl.zero_sig w)
 have HLzs64:Hid (zs64.length=64):=Lib.hid (by rw [hzs64];rfl)
 obtain ⟨m1,hm1⟩:∃ x,x=pl ++ zs64.drop 32:=⟨_,rfl⟩
 have HM1:Hid (zs64.take 0 ++ pl ++ zs64.drop (0+32)=m1):=Lib.hid (by rw [hm1];rfl)
 have HM1L:Hid (m1.length=64):=Lib.hid (by rw [hm1,List.length_append,HPLL.out,List.length_drop,HLzs64.out])
 have HM2:Hid (m1.take 32 ++ sl ++ m1.drop (32+32)=res):=Lib.hid (by rw [hes',List.drop_of_length_le (by rw [HM1L.out];decide),List.append_nil,hm1,List.take_append_of_le_length (by rw [HPLL.out];decide),List.take_of_length_le (by rw [HPLL.out];decide)])
 have HSR1:Hid (∀ (u:World) (g:Nat),u.heap[g]? = some (.cells (arr .u8 pl) 23 (0,0))→Src u (some ⟨g,0,none⟩) 32 pl):=Lib.hid (fun u g h=>Sl.src_all h 32 HPLL.out)
 have HSR2:Hid (∀ (u:World) (g:Nat),u.heap[g]? = some (.cells (arr .u8 sl) 23 (0,0))→Src u (some ⟨g,0,none⟩) 32 sl):=Lib.hid (fun u g h=>Sl.src_all h 32 HSLL.out)
 have HSRL:=Lib.hid hsrl
 have HPA:=Lib.hid hpa
 have HPU:=Lib.hid hpu
 have HWD2:=Lib.hid hw2
 have HWD3:=Lib.hid hw3'
 have HMANY:=Lib.hid hmany
 have HW1:=Lib.hid hw1
 have HMUL:=Lib.hid hmul
 have HADD:=Lib.hid hadd
 have HSB:=Lib.hid hB
 have HCB:=Lib.hid hcb
 have HTD:=Lib.hid hTd
 have HTX:=Lib.hid hTX
 have HTY:=Lib.hid hTY
 have HTQ:=Lib.hid hTQ
 have HTK:=Lib.hid hTK
 have HI0:=Lib.hid (Blk.two w (arr .u8 ks) (arr .u8 zs64) 23 26)
 clear hzn hzs64 hm1 hes' hres hes hks hsl hml hkl hrl hsp hpk hpl hadd hmul hKL hKK hw3' hw3 hsr hSP hPK hRe hspl hw1 hmany hS hR hRL hRR hw2 hpu hpa hsrb hsrl hB hcb bB hN hTd hTX hTY hTQ hTK
 go_enter Tryd.func57, Tryd.ntmps57
 go_upto_region 1 with (first|((with_reducible refine aS 4 ?_);refine wpList_alloc_row rfl 26 rfl _ (HZzs64.out _) ?_))
 (try simp only [World.size_alloc,Act.put,sA,sZ,sS])
 generalize ((w.alloc (.cells (arr .u8 ks) 23)).alloc (.cells (arr .u8 zs64) 26))=wb at HI0 ⊢
 go_upto_region 2 with (first|((with_reducible refine aS 14 ?_);refine wpList_load_part rfl 23 _ rfl (w.heap.size) 0 _ 23 (0,0) _ (HI0.out.get 0 rfl) rfl .u8 ks (arr_part _ _) Tryd.underlying23 rfl (num_i HKSL.out) ?_)|((with_reducible show Calls _ 60 _ _ _);go_at_call 60; refine (HPA.out _ (tabk_below HTK.out HI0.out.below)).mono ?_;rintro e w1 ⟨gp,cp,cup,rfl,⟨h2,h3,h4,h5⟩,hb1⟩;have HI1:=Lib.hid (Sl.Blk.add HI0.out hb1 h2 h3);have HCP:=Lib.hid h4;have HCU:=Lib.hid h5;clear hb1 h2 h3 h4 h5)|((with_reducible refine aS 5 ?_);refine wpList_alloc_row rfl 23 rfl _ (HZzn.out _) ?_;have HI2:=Lib.hid (HI1.out.alloc (arr .u8 zn) 23);generalize w1.heap.size=g5 at HI2 ⊢; generalize w1.alloc (.cells (arr .u8 zn) 23)=w2 at HI2 ⊢)|((with_reducible refine aT 5 ?_);refine wpList_store_whole rfl 23 _ _ rfl (g5) _ _ 23 (HI2.out.get 3 rfl) rfl rfl (arr_len2 _ _ HSPL.out HLzn.out) (num_s HSPL.out) (all_arr _ _) ?_;intro w3 hb3 hk3 hz3;have HI3:=Lib.hid (HI2.out.put 3 rfl hk3 hb3);clear hb3 hk3 hz3))
 (try simp only [World.size_alloc,Act.put,sA,sZ,sS])
 have HSL2:Hid (∀ u:World,Src u (some ⟨gp,0,none⟩) 32 sr→Src u sb nb bs→SrcL (u.alloc (.cells #[.slice (some ⟨gp,0,none⟩) 32 cp, .slice sb nb cb] 24)) (some ⟨u.heap.size,0,none⟩) 2 [sr,bs]):=Lib.hid (fun u h1 h2=>Sl.src_two (blk_new u _) (h1.below ((Below.refl _ u).alloc (Nat.le_refl _) _)) (h2.below ((Below.refl _ u).alloc (Nat.le_refl _) _)) HCP.out HCB.out)
 have HSRC:Hid (Src w3 (some ⟨gp,0,none⟩) 32 sr):=Lib.hid (src_row (HI3.out.get 2 rfl) (by rw [HSRL.out];exact HCU.out) HSRL.out)
 go_upto_region 3 with (first|((with_reducible show Calls _ 89 _ _ _);go_at_call 89; refine (HWD2.out _ _ (HSL2.out _ HSRC.out (HSB.out.below HI3.out.below)) (tabk_below HTK.out (HI3.out.below.alloc HI3.out.below.size _)) (HTQ.out.below (HI3.out.below.alloc HI3.out.below.size _))).mono ?_;rintro e w4 ⟨rfl,hb4⟩;have HI4:=Lib.hid (HI3.out.kept (Sl.below_new hb4));clear hb4)|((with_reducible refine aS 7 ?_);refine wpList_alloc_row rfl 23 rfl _ (HZzn.out _) ?_;have HI5:=Lib.hid (HI4.out.alloc (arr .u8 zn) 23);generalize w4.heap.size=g7 at HI5 ⊢; generalize w4.alloc (.cells (arr .u8 zn) 23)=w5 at HI5 ⊢)|((with_reducible refine aT 7 ?_);refine wpList_store_whole rfl 23 _ _ rfl (g7) _ _ 23 (HI5.out.get 4 rfl) rfl rfl (arr_len2 _ _ HRLL.out HLzn.out) (num_s HRLL.out) (all_arr _ _) ?_;intro w6 hb6 hk6 hz6;have HI6:=Lib.hid (HI5.out.put 4 rfl hk6 hb6);clear hb6 hk6 hz6))
 (try simp only [World.size_alloc,Act.put,sA,sZ,sS])
 go_cut [8] (fun u8 wx=>∃ gg,u8 = .pointer (some ⟨gg,0,none⟩)∧Blk w wx [(w.heap.size,arr .u8 ks, 23),(w.heap.size+1,arr .u8 zs64, 26),(gp,cup, 5),(g5,arr .u8 sp, 23),(g7,arr .u8 rl, 23),(gg,arr .u8 pl, 23)])
 case first =>
  have HK0:=Lib.hid ((Kept.refl (fun _=>False) w6).drew)
  have HBd:=Lib.hid (HI6.out.drew)
  refine wp_region_held_drew (S:=(fun w'=>Kept (fun _=>False) w6 w')) (by kernel_rfl) (HK0.out) (fun hHeld=>?_)
  generalize w6.drew=wd at HK0 HBd hHeld ⊢
  refine' wpAnyH_take (i:=1) (oi:=(⟨some 23,_,_,_,_,none⟩:Oper)) (v:=_) rfl (by kernel_rfl) (by kernel_rfl) (by kernel_rfl) (fun _ _ _ h=>h) (yieldsIf_load_mid (by rfl) _ _ rfl _ _ rfl (rl.map (Value.int .u8)) _ ?hS5501 Tryd.underlying23 rfl (by rw [List.length_map];exact num_i HRLL.out)) (by assumption) ?rest5501
  case hS5501=>(intro w hSw;(try dsimp only at hSw);exact range_part (hSw.blk (HI6.out.get 4 rfl) (fun e=>e.elim)) 0 _ (by rw [List.length_map];exact arr_part _ _))
  (try simp only [Act.put,sA,sZ,sS])
  refine wpAnyH_ready (rs:=[0,4]) (by kernel_rfl) (by simp) ?_
  refine AllReadyH.cons (o:=(⟨some 22,_,_,_,_,none⟩:Oper)) rfl (fun K hK=>?_) ?_
  ·go_simp
   go_at_call 63
   refine (base_any _ (range_below HTX.out HBd.out.below) (range_below HTY.out HBd.out.below)).mono ?_
   rintro e w5502 ⟨z5502,rfl,h5502,hb5502⟩
   have HZ5502:=Lib.hid h5502
   have HL5502:=Lib.hid h5502.len
   clear h5502
   have HB5502:=Lib.hid (HBd.out.kept hb5502)
   have HK5502:=Lib.hid (HK0.out.trans (Kept.of_below hb5502))
   clear hb5502
   (try dsimp only)
   clear HBd
   clear HK0
   clear hHeld
   refine hK.out _ _ (HK5502.out) (fun hHeld=>?_)
   clear hK K
   (try simp only [Act.put,sA,sZ,sS])
   refine wpAnyH_ready (rs:=[2,4]) (by kernel_rfl) (by simp) ?_
   refine AllReadyH.cons (o:=(⟨some 24,_,_,_,_,none⟩:Oper)) rfl (fun K hK=>?_) ?_
   ·go_simp
    go_at_call 62
    refine (HMANY.out _ _ _ HZ5502.out (range_below HTD.out HB5502.out.below)).mono ?_
    rintro e w5503 ⟨z5503,rfl,h5503,hb5503⟩
    have HZ5503:=Lib.hid h5503
    have HL5503:=Lib.hid h5503.len
    clear h5503
    have HB5503:=Lib.hid (HB5502.out.kept hb5503)
    have HK5503:=Lib.hid (HK5502.out.trans (Kept.of_below hb5503))
    clear hb5503
    (try dsimp only)
    clear HB5502
    clear HK5502
    clear hHeld
    refine hK.out _ _ (HK5503.out) (fun hHeld=>?_)
    clear hK K
    (try simp only [Act.put,sA,sZ,sS])
    refine wpAnyH_ready (rs:=[3,4]) (by kernel_rfl) (by simp) ?_
    refine AllReadyH.cons (o:=(⟨some 25,_,_,_,_,none⟩:Oper)) rfl (fun K hK=>?_) ?_
    ·go_simp
     go_at_call 61
     refine (HW1.out _ _ HZ5503.out).mono ?_
     rintro e w5504 ⟨rfl,hb5504⟩
     have HB5504:=Lib.hid (HB5503.out.kept hb5504)
     have HK5504:=Lib.hid (HK5503.out.trans (Kept.of_below hb5504))
     clear hb5504
     (try dsimp only)
     clear HB5503
     clear HK5503
     clear hHeld
     refine hK.out _ _ (HK5504.out) (fun hHeld=>?_)
     clear hK K
     (try simp only [Act.put,sA,sZ,sS])
     refine wpAnyH_ready (rs:=[4]) (by kernel_rfl) (by simp) ?_
     refine AllReadyH.cons (o:=(⟨some 8,_,_,_,_,none⟩:Oper)) rfl (fun K hK=>?_) AllReadyH.nil
     refine step_alloc_row rfl 23 rfl _ (HZzn.out _) ?_
     have HB5505:=Lib.hid (HB5504.out.alloc (arr .u8 zn) 23)
     have HK5505:=Lib.hid (HK5504.out.alloc (.cells (arr .u8 zn) 23))
     have HN5505:=Lib.hid (show w6.heap.size≤(w5504).heap.size from HK5504.out.size)
     generalize (w5504).heap.size=g5505 at HB5505 HN5505 ⊢
     generalize (w5504).alloc (.cells (arr .u8 zn) 23)=w5505 at HB5505 HK5505 ⊢
     clear HB5504
     clear HK5504
     clear hHeld
     refine hK.out _ _ (HK5505.out) (fun hHeld=>?_)
     clear hK K
     (try simp only [Act.put,sA,sZ,sS])
     refine wpAnyH_ready (rs:=[5]) (by kernel_rfl) (by simp) ?_
     refine AllReadyH.cons (o:=(⟨none,_,_,_,_,none⟩:Oper)) rfl (fun K hK=>?_) AllReadyH.nil
     refine step_store_whole rfl 23 (.tmp 8) (.tmp 25) rfl (g5505) _ _ _ (HB5505.out.get 5 rfl) rfl rfl (arr_len2 _ _ HPLL.out HLzn.out) (num_s HPLL.out) (all_arr _ _) ?_
     intro w5506 hb5506 hk5506 hz5506
     have HB5506:=Lib.hid (HB5505.out.put 5 rfl hk5506 hb5506)
     have HK5506:=Lib.hid (HK5505.out.trans_new hk5506 (fun i hi e=>absurd hi (by rw [e];exact Nat.not_lt.2 HN5505.out)))
     clear hb5506 hk5506 hz5506
     clear HB5505
     clear HK5505
     clear hHeld
     refine hK.out _ _ (HK5506.out) (fun hHeld=>?_)
     clear hK K
     (try simp only [Act.put])
     refine wpAnyH_done (by kernel_rfl) ?_ _
     go_wp2_with fail
     go_meet
     exact ⟨_,rfl,HB5506.out⟩
    refine AllReadyH.cons (o:=(⟨some 8,_,_,_,_,none⟩:Oper)) rfl (fun K hK=>?_) ?_
    ·refine step_alloc_row rfl 23 rfl _ (HZzn.out _) ?_
     have HB5507:=Lib.hid (HB5503.out.alloc (arr .u8 zn) 23)
     have HK5507:=Lib.hid (HK5503.out.alloc (.cells (arr .u8 zn) 23))
     have HN5507:=Lib.hid (show w6.heap.size≤(w5503).heap.size from HK5503.out.size)
     generalize (w5503).heap.size=g5507 at HB5507 HN5507 ⊢
     generalize (w5503).alloc (.cells (arr .u8 zn) 23)=w5507 at HB5507 HK5507 ⊢
     clear HB5503
     clear HK5503
     clear hHeld
     refine hK.out _ _ (HK5507.out) (fun hHeld=>?_)
     clear hK K
     (try simp only [Act.put,sA,sZ,sS])
     refine wpAnyH_ready (rs:=[3]) (by kernel_rfl) (by simp) ?_
     refine AllReadyH.cons (o:=(⟨some 25,_,_,_,_,none⟩:Oper)) rfl (fun K hK=>?_) AllReadyH.nil
     go_simp
     go_at_call 61
     refine (HW1.out _ _ HZ5503.out).mono ?_
     rintro e w5508 ⟨rfl,hb5508⟩
     have HB5508:=Lib.hid (HB5507.out.kept hb5508)
     have HK5508:=Lib.hid (HK5507.out.trans (Kept.of_below hb5508))
     clear hb5508
     (try dsimp only)
     clear HB5507
     clear HK5507
     clear hHeld
     refine hK.out _ _ (HK5508.out) (fun hHeld=>?_)
     clear hK K
     (try simp only [Act.put,sA,sZ,sS])
     refine wpAnyH_ready (rs:=[5]) (by kernel_rfl) (by simp) ?_
     refine AllReadyH.cons (o:=(⟨none,_,_,_,_,none⟩:Oper)) rfl (fun K hK=>?_) AllReadyH.nil
     refine step_store_whole rfl 23 (.tmp 8) (.tmp 25) rfl (g5507) _ _ _ (HB5508.out.get 5 rfl) rfl rfl (arr_len2 _ _ HPLL.out HLzn.out) (num_s HPLL.out) (all_arr _ _) ?_
     intro w5509 hb5509 hk5509 hz5509
     have HB5509:=Lib.hid (HB5508.out.put 5 rfl hk5509 hb5509)
     have HK5509:=Lib.hid (HK5508.out.trans_new hk5509 (fun i hi e=>absurd hi (by rw [e];exact Nat.not_lt.2 HN5507.out)))
     clear hb5509 hk5509 hz5509
     clear HB5508
     clear HK5508
     clear hHeld
     refine hK.out _ _ (HK5509.out) (fun hHeld=>?_)
     clear hK K
     (try simp only [Act.put])
     refine wpAnyH_done (by kernel_rfl) ?_ _
     go_wp2_with fail
     go_meet
     exact ⟨_,rfl,HB5509.out⟩
    exact AllReadyH.nil
   refine AllReadyH.cons (o:=(⟨some 8,_,_,_,_,none⟩:Oper)) rfl (fun K hK=>?_) ?_
   ·refine step_alloc_row rfl 23 rfl _ (HZzn.out _) ?_
    have HB5510:=Lib.hid (HB5502.out.alloc (arr .u8 zn) 23)
    have HK5510:=Lib.hid (HK5502.out.alloc (.cells (arr .u8 zn) 23))
    have HN5510:=Lib.hid (show w6.heap.size≤(w5502).heap.size from HK5502.out.size)
    generalize (w5502).heap.size=g5510 at HB5510 HN5510 ⊢
    generalize (w5502).alloc (.cells (arr .u8 zn) 23)=w5510 at HB5510 HK5510 ⊢
    clear HB5502
    clear HK5502
    clear hHeld
    refine hK.out _ _ (HK5510.out) (fun hHeld=>?_)
    clear hK K
    (try simp only [Act.put,sA,sZ,sS])
    refine wpAnyH_ready (rs:=[2]) (by kernel_rfl) (by simp) ?_
    refine AllReadyH.cons (o:=(⟨some 24,_,_,_,_,none⟩:Oper)) rfl (fun K hK=>?_) AllReadyH.nil
    go_simp
    go_at_call 62
    refine (HMANY.out _ _ _ HZ5502.out (range_below HTD.out HB5510.out.below)).mono ?_
    rintro e w5511 ⟨z5511,rfl,h5511,hb5511⟩
    have HZ5511:=Lib.hid h5511
    have HL5511:=Lib.hid h5511.len
    clear h5511
    have HB5511:=Lib.hid (HB5510.out.kept hb5511)
    have HK5511:=Lib.hid (HK5510.out.trans (Kept.of_below hb5511))
    clear hb5511
    (try dsimp only)
    clear HB5510
    clear HK5510
    clear hHeld
    refine hK.out _ _ (HK5511.out) (fun hHeld=>?_)
    clear hK K
    (try simp only [Act.put,sA,sZ,sS])
    refine wpAnyH_ready (rs:=[3]) (by kernel_rfl) (by simp) ?_
    refine AllReadyH.cons (o:=(⟨some 25,_,_,_,_,none⟩:Oper)) rfl (fun K hK=>?_) AllReadyH.nil
    go_simp
    go_at_call 61
    refine (HW1.out _ _ HZ5511.out).mono ?_
    rintro e w5512 ⟨rfl,hb5512⟩
    have HB5512:=Lib.hid (HB5511.out.kept hb5512)
    have HK5512:=Lib.hid (HK5511.out.trans (Kept.of_below hb5512))
    clear hb5512
    (try dsimp only)
    clear HB5511
    clear HK5511
    clear hHeld
    refine hK.out _ _ (HK5512.out) (fun hHeld=>?_)
    clear hK K
    (try simp only [Act.put,sA,sZ,sS])
    refine wpAnyH_ready (rs:=[5]) (by kernel_rfl) (by simp) ?_
    refine AllReadyH.cons (o:=(⟨none,_,_,_,_,none⟩:Oper)) rfl (fun K hK=>?_) AllReadyH.nil
    refine step_store_whole rfl 23 (.tmp 8) (.tmp 25) rfl (g5510) _ _ _ (HB5512.out.get 5 rfl) rfl rfl (arr_len2 _ _ HPLL.out HLzn.out) (num_s HPLL.out) (all_arr _ _) ?_
    intro w5513 hb5513 hk5513 hz5513
    have HB5513:=Lib.hid (HB5512.out.put 5 rfl hk5513 hb5513)
    have HK5513:=Lib.hid (HK5512.out.trans_new hk5513 (fun i hi e=>absurd hi (by rw [e];exact Nat.not_lt.2 HN5510.out)))
    clear hb5513 hk5513 hz5513
    clear HB5512
    clear HK5512
    clear hHeld
    refine hK.out _ _ (HK5513.out) (fun hHeld=>?_)
    clear hK K
    (try simp only [Act.put])
    refine wpAnyH_done (by kernel_rfl) ?_ _
    go_wp2_with fail
    go_meet
    exact ⟨_,rfl,HB5513.out⟩
   exact AllReadyH.nil
  refine AllReadyH.cons (o:=(⟨some 8,_,_,_,_,none⟩:Oper)) rfl (fun K hK=>?_) ?_
  ·refine step_alloc_row rfl 23 rfl _ (HZzn.out _) ?_
   have HB5514:=Lib.hid (HBd.out.alloc (arr .u8 zn) 23)
   have HK5514:=Lib.hid (HK0.out.alloc (.cells (arr .u8 zn) 23))
   have HN5514:=Lib.hid (show w6.heap.size≤(wd).heap.size from HK0.out.size)
   generalize (wd).heap.size=g5514 at HB5514 HN5514 ⊢
   generalize (wd).alloc (.cells (arr .u8 zn) 23)=w5514 at HB5514 HK5514 ⊢
   clear HBd
   clear HK0
   clear hHeld
   refine hK.out _ _ (HK5514.out) (fun hHeld=>?_)
   clear hK K
   (try simp only [Act.put,sA,sZ,sS])
   refine wpAnyH_ready (rs:=[0]) (by kernel_rfl) (by simp) ?_
   refine AllReadyH.cons (o:=(⟨some 22,_,_,_,_,none⟩:Oper)) rfl (fun K hK=>?_) AllReadyH.nil
   go_simp
   go_at_call 63
   refine (base_any _ (range_below HTX.out HB5514.out.below) (range_below HTY.out HB5514.out.below)).mono ?_
   rintro e w5515 ⟨z5515,rfl,h5515,hb5515⟩
   have HZ5515:=Lib.hid h5515
   have HL5515:=Lib.hid h5515.len
   clear h5515
   have HB5515:=Lib.hid (HB5514.out.kept hb5515)
   have HK5515:=Lib.hid (HK5514.out.trans (Kept.of_below hb5515))
   clear hb5515
   (try dsimp only)
   clear HB5514
   clear HK5514
   clear hHeld
   refine hK.out _ _ (HK5515.out) (fun hHeld=>?_)
   clear hK K
   (try simp only [Act.put,sA,sZ,sS])
   refine wpAnyH_ready (rs:=[2]) (by kernel_rfl) (by simp) ?_
   refine AllReadyH.cons (o:=(⟨some 24,_,_,_,_,none⟩:Oper)) rfl (fun K hK=>?_) AllReadyH.nil
   go_simp
   go_at_call 62
   refine (HMANY.out _ _ _ HZ5515.out (range_below HTD.out HB5515.out.below)).mono ?_
   rintro e w5516 ⟨z5516,rfl,h5516,hb5516⟩
   have HZ5516:=Lib.hid h5516
   have HL5516:=Lib.hid h5516.len
   clear h5516
   have HB5516:=Lib.hid (HB5515.out.kept hb5516)
   have HK5516:=Lib.hid (HK5515.out.trans (Kept.of_below hb5516))
   clear hb5516
   (try dsimp only)
   clear HB5515
   clear HK5515
   clear hHeld
   refine hK.out _ _ (HK5516.out) (fun hHeld=>?_)
   clear hK K
   (try simp only [Act.put,sA,sZ,sS])
   refine wpAnyH_ready (rs:=[3]) (by kernel_rfl) (by simp) ?_
   refine AllReadyH.cons (o:=(⟨some 25,_,_,_,_,none⟩:Oper)) rfl (fun K hK=>?_) AllReadyH.nil
   go_simp
   go_at_call 61
   refine (HW1.out _ _ HZ5516.out).mono ?_
   rintro e w5517 ⟨rfl,hb5517⟩
   have HB5517:=Lib.hid (HB5516.out.kept hb5517)
   have HK5517:=Lib.hid (HK5516.out.trans (Kept.of_below hb5517))
   clear hb5517
   (try dsimp only)
   clear HB5516
   clear HK5516
   clear hHeld
   refine hK.out _ _ (HK5517.out) (fun hHeld=>?_)
   clear hK K
   (try simp only [Act.put,sA,sZ,sS])
   refine wpAnyH_ready (rs:=[5]) (by kernel_rfl) (by simp) ?_
   refine AllReadyH.cons (o:=(⟨none,_,_,_,_,none⟩:Oper)) rfl (fun K hK=>?_) AllReadyH.nil
   refine step_store_whole rfl 23 (.tmp 8) (.tmp 25) rfl (g5514) _ _ _ (HB5517.out.get 5 rfl) rfl rfl (arr_len2 _ _ HPLL.out HLzn.out) (num_s HPLL.out) (all_arr _ _) ?_
   intro w5518 hb5518 hk5518 hz5518
   have HB5518:=Lib.hid (HB5517.out.put 5 rfl hk5518 hb5518)
   have HK5518:=Lib.hid (HK5517.out.trans_new hk5518 (fun i hi e=>absurd hi (by rw [e];exact Nat.not_lt.2 HN5514.out)))
   clear hb5518 hk5518 hz5518
   clear HB5517
   clear HK5517
   clear hHeld
   refine hK.out _ _ (HK5518.out) (fun hHeld=>?_)
   clear hK K
   (try simp only [Act.put])
   refine wpAnyH_done (by kernel_rfl) ?_ _
   go_wp2_with fail
   go_meet
   exact ⟨_,rfl,HB5518.out⟩
  exact AllReadyH.nil
 case rest =>
 obtain ⟨wy,rfl⟩:∃ x:World,x=wc:=⟨_,rfl⟩
 obtain ⟨g8,rfl,hb1⟩:=hcut
 have HI8:=Lib.hid hb1
 clear hb1
 go_upto_region 5 with (first|((with_reducible refine aS 26 ?_);refine wpList_load_part rfl 23 _ rfl (w.heap.size) 0 _ 23 (0,0) _ (HI8.out.get 0 rfl) rfl .u8 ks (arr_part _ _) Tryd.underlying23 rfl (num_i HKSL.out) ?_)|((with_reducible show Calls _ 27 _ _ _);go_at_call 27; refine (HPU.out _ (range_below HTD.out HI8.out.below) (range_below HTX.out HI8.out.below) (range_below HTY.out HI8.out.below) (tabk_below HTK.out HI8.out.below)).mono ?_;rintro e w20 ⟨rfl,hb20⟩;have HI20:=Lib.hid (HI8.out.kept hb20);clear hb20)|((with_reducible refine aS 9 ?_);refine wpList_alloc_row rfl 23 rfl _ (HZzn.out _) ?_;have HI21:=Lib.hid (HI20.out.alloc (arr .u8 zn) 23);generalize w20.heap.size=g9 at HI21 ⊢; generalize w20.alloc (.cells (arr .u8 zn) 23)=w21 at HI21 ⊢)|((with_reducible refine aT 9 ?_);refine wpList_store_whole rfl 23 _ _ rfl (g9) _ _ 23 (HI21.out.get 6 rfl) rfl rfl (arr_len2 _ _ HPKL.out HLzn.out) (num_s HPKL.out) (all_arr _ _) ?_;intro w22 hb22 hk22 hz22;have HI22:=Lib.hid (HI21.out.put 6 rfl hk22 hb22);clear hb22 hk22 hz22))
 (try simp only [World.size_alloc,Act.put,sA,sZ,sS])
 refine wp_region_lin (fun (fF:Fill) (uF:World)=>(∀ v,fF 0=some v→v = .slice (some ⟨g8,0,none⟩) 32 32∧True)∧(∀ v,fF 1=some v→v = .slice (some ⟨g9,0,none⟩) 32 32∧True)∧(∀ v,fF 2=some v→v = .slice sb nb cb∧True)∧(∀ v,fF 3=some v→∃ g:Nat,v = .slice (some ⟨g,0,none⟩) 3 3)∧(∀ v,fF 4=some v→v = .agg (arr .u8 kl)∧True)∧(∀ v,fF 5=some v→∃ g:Nat,v = .pointer (some ⟨g,0,none⟩))∧Blk w uF ([(w.heap.size,arr .u8 ks, 23),(w.heap.size+1,arr .u8 zs64, 26),(gp,cup, 5),(g5,arr .u8 sp, 23),(g7,arr .u8 rl, 23),(g8,arr .u8 pl, 23),(g9,arr .u8 pk, 23)] ++ (ent (fF 3) (#[.slice (some ⟨g8,0,none⟩) 32 32, .slice (some ⟨g9,0,none⟩) 32 32, .slice sb nb cb]) 24 ++ (ent (fF 5) ((if (fF 6).isSome=true then arr .u8 kl else arr .u8 zn)) 23)))) (by kernel_rfl) (by kernel_rfl) ?zt5 ?st5 ?et5
 case zt5=>exact ⟨fun _ h=>(by cases h),fun _ h=>(by cases h),fun _ h=>(by cases h),fun _ h=>(by cases h),fun _ h=>(by cases h),fun _ h=>(by cases h),HI22.out.drew⟩
 case st5 =>
  refine LinAll.cons (fun fF bF uF kF hJF hfF hcF hupF hsF hKF=>?_) ?_
  ·obtain ⟨j0,j1,j2,j3,j4,j5,hB⟩:=hJF
   have e8:bF.eval (.tmp 8) = .pointer (some ⟨g8,0,none⟩):=hsF.old' 8 (by kernel_rfl) rfl
   exact lin_pure rfl (.slice (some ⟨g8,0,none⟩) 32 32) (by simp only [execOp,e8];first|rfl|(go_simp;done)) (hKF _ _ ⟨fun _ h=>⟨sI h,trivial⟩,j1,j2,j3,j4,j5,hB⟩)
  refine LinAll.cons (fun fF bF uF kF hJF hfF hcF hupF hsF hKF=>?_) ?_
  ·obtain ⟨j0,j1,j2,j3,j4,j5,hB⟩:=hJF
   have e9:bF.eval (.tmp 9) = .pointer (some ⟨g9,0,none⟩):=hsF.old' 9 (by kernel_rfl) rfl
   exact lin_pure rfl (.slice (some ⟨g9,0,none⟩) 32 32) (by simp only [execOp,e9];first|rfl|(go_simp;done)) (hKF _ _ ⟨j0,fun _ h=>⟨sI h,trivial⟩,j2,j3,j4,j5,hB⟩)
  refine LinAll.cons (fun fF bF uF kF hJF hfF hcF hupF hsF hKF=>?_) ?_
  ·obtain ⟨j0,j1,j2,j3,j4,j5,hB⟩:=hJF
   have e1:bF.eval (.tmp 1) = .slice sb nb cb:=hsF.old' 1 (by kernel_rfl) rfl
   exact lin_pure rfl (.slice sb nb cb) (by simp only [execOp,e1] <;> first|rfl|kernel_rfl|(go_simp;done)) (hKF _ _ ⟨j0,j1,fun _ h=>⟨sI h,trivial⟩,j3,j4,j5,hB⟩)
  refine LinAll.cons (fun fF bF uF kF hJF hfF hcF hupF hsF hKF=>?_) ?_
  ·obtain ⟨j0,j1,j2,j3,j4,j5,hB⟩:=hJF
   obtain ⟨e28,p28⟩:=hsF.at hupF 0 28 (by kernel_rfl) rfl j0
   obtain ⟨e29,p29⟩:=hsF.at hupF 1 29 (by kernel_rfl) rfl j1
   obtain ⟨e30,p30⟩:=hsF.at hupF 2 30 (by kernel_rfl) rfl j2
   have hB1:Blk w (uF.alloc (.cells #[.slice (some ⟨g8,0,none⟩) 32 32, .slice (some ⟨g9,0,none⟩) 32 32, .slice sb nb cb] 24)) ([(w.heap.size,arr .u8 ks, 23),(w.heap.size+1,arr .u8 zs64, 26),(gp,cup, 5),(g5,arr .u8 sp, 23),(g7,arr .u8 rl, 23),(g8,arr .u8 pl, 23),(g9,arr .u8 pk, 23)] ++ (ent ((some (.slice (some ⟨uF.heap.size,0,none⟩) 3 3):Option Value)) (#[.slice (some ⟨g8,0,none⟩) 32 32, .slice (some ⟨g9,0,none⟩) 32 32, .slice sb nb cb]) 24 ++ (ent (fF 5) ((if (fF 6).isSome=true then arr .u8 kl else arr .u8 zn)) 23))):=hB.ins (a:=[(w.heap.size,arr .u8 ks, 23),(w.heap.size+1,arr .u8 zs64, 26),(gp,cup, 5),(g5,arr .u8 sp, 23),(g7,arr .u8 rl, 23),(g8,arr .u8 pl, 23),(g9,arr .u8 pk, 23)]) (b:=ent (fF 5) ((if (fF 6).isSome=true then arr .u8 kl else arr .u8 zn)) 23) _ _ (by rw [hfF];simp only [ent_none,List.nil_append,List.append_nil,List.append_assoc,List.cons_append]) (by simp only [ent_slice,List.nil_append,List.append_nil,List.append_assoc,List.cons_append,Option.isSome_none,Bool.false_eq_true,if_false])
   rw [if_pos (by simp [Region.wanted])]
   unfold Oper.wp
   simp only [execOp,List.map_toArray,List.map_cons,List.map_nil,e28,e29,e30]
   generalize hX:Sem.run Tryd.prog _ uF=X
   have hrun:X = .ok (.value (.slice (some ⟨uF.heap.size,0,none⟩) 3 3)) (uF.alloc (.cells #[.slice (some ⟨g8,0,none⟩) 32 32, .slice (some ⟨g9,0,none⟩) 32 32, .slice sb nb cb] 24)):=by
    rw [← hX]
    first|rfl|kernel_rfl
   rw [hrun]
   exact hKF _ _ ⟨j0,j1,j2,fun _ h=>⟨_,sI h⟩,j4,j5,hB1⟩
  refine LinAll.cons (fun fF bF uF kF hJF hfF hcF hupF hsF hKF=>?_) ?_
  ·obtain ⟨j0,j1,j2,j3,j4,j5,hB⟩:=hJF
   have y3:=hupF 3 (by kernel_rfl)
   obtain ⟨v3,s3⟩:=sE y3
   obtain ⟨gt5_7,rfl⟩:=j3 _ s3
   have e31:=hsF.val 3 31 rfl s3
   have hB':=hB
   rw [s3] at hB'
   have hsl:=src_three (hB'.get 7 rfl) (HSR1.out _ _ (hB'.get 5 rfl)) (Sl.src_all (hB'.get 6 rfl) 32 HPKL.out) (HSB.out.below hB.below) (Nat.le_refl _) (Nat.le_refl _) HCB.out
   refine lin_call rfl 89 [Operand.tmp 31] _ [.slice (some ⟨gt5_7,0,none⟩) 3 3] rfl (by simp only [List.map_cons,List.map_nil,e31] <;> rfl) (fun _ _=>by kernel_rfl) ?_
   refine Calls.mono (HWD3.out _ _ hsl (tabk_below HTK.out hB.below) (HTQ.out.below hB.below)) ?_
   rintro e w1 ⟨rfl,hb⟩
   exact ⟨_,rfl,hKF _ _ ⟨j0,j1,j2,j3,fun _ h=>⟨sI h,trivial⟩,j5,hB.kept hb⟩⟩
  refine LinAll.cons (fun fF bF uF kF hJF hfF hcF hupF hsF hKF=>?_) ?_
  ·obtain ⟨j0,j1,j2,j3,j4,j5,hB⟩:=hJF
   have n6:=hcF.down 6 5 (by kernel_rfl) hfF
   refine step_alloc_row rfl 23 rfl _ (HZzn.out _) ?_
   have hB1:Blk w (uF.alloc (.cells (arr .u8 zn) 23)) ([(w.heap.size,arr .u8 ks, 23),(w.heap.size+1,arr .u8 zs64, 26),(gp,cup, 5),(g5,arr .u8 sp, 23),(g7,arr .u8 rl, 23),(g8,arr .u8 pl, 23),(g9,arr .u8 pk, 23)] ++ (ent (fF 3) (#[.slice (some ⟨g8,0,none⟩) 32 32, .slice (some ⟨g9,0,none⟩) 32 32, .slice sb nb cb]) 24 ++ (ent ((some (.pointer (some ⟨uF.heap.size,0,none⟩)):Option Value)) ((if (fF 6).isSome=true then arr .u8 kl else arr .u8 zn)) 23))):=hB.ins (a:=[(w.heap.size,arr .u8 ks, 23),(w.heap.size+1,arr .u8 zs64, 26),(gp,cup, 5),(g5,arr .u8 sp, 23),(g7,arr .u8 rl, 23),(g8,arr .u8 pl, 23),(g9,arr .u8 pk, 23)] ++ ent (fF 3) (#[.slice (some ⟨g8,0,none⟩) 32 32, .slice (some ⟨g9,0,none⟩) 32 32, .slice sb nb cb]) 24) (b:=[]) _ _ (by rw [hfF,n6];simp only [ent_none,List.nil_append,List.append_nil,List.append_assoc,List.cons_append]) (by rw [n6];simp only [ent_some,List.nil_append,List.append_nil,List.append_assoc,List.cons_append,Option.isSome_none,Bool.false_eq_true,if_false])
   exact hKF _ _ ⟨j0,j1,j2,j3,j4,fun _ h=>⟨_,sI h⟩,hB1⟩
  refine LinAll.cons (fun fF bF uF kF hJF hfF hcF hupF hsF hKF=>?_) ?_
  ·obtain ⟨j0,j1,j2,j3,j4,j5,hB⟩:=hJF
   have y3:=hupF 3 (by kernel_rfl)
   obtain ⟨v3,s3⟩:=sE y3
   obtain ⟨gt5_7,rfl⟩:=j3 _ s3
   have y5:=hupF 5 (by kernel_rfl)
   obtain ⟨v5,s5⟩:=sE y5
   obtain ⟨gt5_8,rfl⟩:=j5 _ s5
   have e10:=hsF.val 5 10 rfl s5
   obtain ⟨e32,p32⟩:=hsF.at hupF 4 32 (by kernel_rfl) rfl j4
   have hB':=hB
   rw [s3,s5,hfF] at hB'
   refine step_store_whole rfl 23 (.tmp 10) (.tmp 32) rfl (gt5_8) (arr .u8 zn) _ 23 (hB'.get 8 rfl) e10 e32 (arr_len2 _ _ HKLL.out HLzn.out) (num_s HKLL.out) (all_arr _ _) ?_
   intro w1 hb1 hk1 hz1
   have hB1:Blk w w1 ([(w.heap.size,arr .u8 ks, 23),(w.heap.size+1,arr .u8 zs64, 26),(gp,cup, 5),(g5,arr .u8 sp, 23),(g7,arr .u8 rl, 23),(g8,arr .u8 pl, 23),(g9,arr .u8 pk, 23)] ++ (ent (fF 3) (#[.slice (some ⟨g8,0,none⟩) 32 32, .slice (some ⟨g9,0,none⟩) 32 32, .slice sb nb cb]) 24 ++ (ent (fF 5) ((if ((some undef:Option Value)).isSome=true then arr .u8 kl else arr .u8 zn)) 23))):=by rw [s3,s5];exact hB'.put 8 rfl hk1 hb1
   exact hKF undef w1 ⟨j0,j1,j2,j3,j4,j5,hB1⟩
  exact LinAll.nil
 case et5 =>
 intro fF ut5 hall hJF
 obtain ⟨j0,j1,j2,j3,j4,j5,hB⟩:=hJF
 obtain ⟨v0,h0⟩:=sE (hall 0 (by decide))
 obtain ⟨rfl,p0⟩:=j0 _ h0
 obtain ⟨v1,h1⟩:=sE (hall 1 (by decide))
 obtain ⟨rfl,p1⟩:=j1 _ h1
 obtain ⟨v2,h2⟩:=sE (hall 2 (by decide))
 obtain ⟨rfl,p2⟩:=j2 _ h2
 obtain ⟨v3,h3⟩:=sE (hall 3 (by decide))
 obtain ⟨gt5_7,rfl⟩:=j3 _ h3
 obtain ⟨v4,h4⟩:=sE (hall 4 (by decide))
 obtain ⟨rfl,p4⟩:=j4 _ h4
 obtain ⟨v5,h5⟩:=sE (hall 5 (by decide))
 obtain ⟨gt5_8,rfl⟩:=j5 _ h5
 obtain ⟨v6,h6⟩:=sE (hall 6 (by decide))
 rw [h3,h5,h6] at hB
 have HBt5:Hid (Blk w ut5 [(w.heap.size,arr .u8 ks, 23),(w.heap.size+1,arr .u8 zs64, 26),(gp,cup, 5),(g5,arr .u8 sp, 23),(g7,arr .u8 rl, 23),(g8,arr .u8 pl, 23),(g9,arr .u8 pk, 23),(gt5_7, #[.slice (some ⟨g8,0,none⟩) 32 32, .slice (some ⟨g9,0,none⟩) 32 32, .slice sb nb cb], 24),(gt5_8,arr .u8 kl, 23)]):=Lib.hid hB
 simp only [laid,Nat.zero_add,Nat.reduceAdd,h0,h1,h2,h3,h4,h5,h6,Act.put,sA,sZ,sS]
 clear j0 j1 j2 j3 j4 j5 hB h0 h1 h2 h3 h4 h5 h6 hall fF HI22
 clear p0 p1 p2 p4
 (try simp only [Exit.then])
 go_upto_region 6 with fail
 (try simp only [World.size_alloc,Act.put,sA,sZ,sS])
 refine wp_region_lin (fun (fF:Fill) (uF:World)=>(∀ v,fF 0=some v→v = .agg (arr .u8 rl)∧True)∧(∀ v,fF 1=some v→v = .agg (arr .u8 kl)∧True)∧(∀ v,fF 2=some v→v = .agg (arr .u8 sp)∧True)∧(∀ v,fF 3=some v→v = .agg (arr .u8 ml)∧True)∧(∀ v,fF 4=some v→v = .agg (arr .u8 sl)∧True)∧(∀ v,fF 5=some v→∃ g:Nat,v = .pointer (some ⟨g,0,none⟩))∧Blk w uF ([(w.heap.size,arr .u8 ks, 23),(w.heap.size+1,arr .u8 zs64, 26),(gp,cup, 5),(g5,arr .u8 sp, 23),(g7,arr .u8 rl, 23),(g8,arr .u8 pl, 23),(g9,arr .u8 pk, 23),(gt5_7, #[.slice (some ⟨g8,0,none⟩) 32 32, .slice (some ⟨g9,0,none⟩) 32 32, .slice sb nb cb], 24),(gt5_8,arr .u8 kl, 23)] ++ (ent (fF 5) ((if (fF 6).isSome=true then arr .u8 sl else arr .u8 zn)) 23))) (by kernel_rfl) (by kernel_rfl) ?zt6 ?st6 ?et6
 case zt6=>exact ⟨fun _ h=>(by cases h),fun _ h=>(by cases h),fun _ h=>(by cases h),fun _ h=>(by cases h),fun _ h=>(by cases h),fun _ h=>(by cases h),HBt5.out.drew⟩
 case st6 =>
  refine LinAll.cons (fun fF bF uF kF hJF hfF hcF hupF hsF hKF=>?_) ?_
  ·obtain ⟨j0,j1,j2,j3,j4,j5,hB⟩:=hJF
   have e7:bF.eval (.tmp 7) = .pointer (some ⟨g7,0,none⟩):=hsF.old' 7 (by kernel_rfl) rfl
   have hB':=hB
   refine step_load_part rfl 23 _ rfl (g7) (0) (arr .u8 rl) 23 (0,0) _ (hB'.get 4 rfl) e7 .u8 rl (arr_part _ _) Tryd.underlying23 rfl (num_i HRLL.out) ?_
   exact hKF _ _ ⟨fun _ h=>⟨sI h,trivial⟩,j1,j2,j3,j4,j5,hB⟩
  refine LinAll.cons (fun fF bF uF kF hJF hfF hcF hupF hsF hKF=>?_) ?_
  ·obtain ⟨j0,j1,j2,j3,j4,j5,hB⟩:=hJF
   have e10:bF.eval (.tmp 10) = .pointer (some ⟨gt5_8,0,none⟩):=hsF.old' 10 (by kernel_rfl) rfl
   have hB':=hB
   refine step_load_part rfl 23 _ rfl (gt5_8) (0) (arr .u8 kl) 23 (0,0) _ (hB'.get 8 rfl) e10 .u8 kl (arr_part _ _) Tryd.underlying23 rfl (num_i HKLL.out) ?_
   exact hKF _ _ ⟨j0,fun _ h=>⟨sI h,trivial⟩,j2,j3,j4,j5,hB⟩
  refine LinAll.cons (fun fF bF uF kF hJF hfF hcF hupF hsF hKF=>?_) ?_
  ·obtain ⟨j0,j1,j2,j3,j4,j5,hB⟩:=hJF
   have e5:bF.eval (.tmp 5) = .pointer (some ⟨g5,0,none⟩):=hsF.old' 5 (by kernel_rfl) rfl
   have hB':=hB
   refine step_load_part rfl 23 _ rfl (g5) (0) (arr .u8 sp) 23 (0,0) _ (hB'.get 3 rfl) e5 .u8 sp (arr_part _ _) Tryd.underlying23 rfl (num_i HSPL.out) ?_
   exact hKF _ _ ⟨j0,j1,fun _ h=>⟨sI h,trivial⟩,j3,j4,j5,hB⟩
  refine LinAll.cons (fun fF bF uF kF hJF hfF hcF hupF hsF hKF=>?_) ?_
  ·obtain ⟨j0,j1,j2,j3,j4,j5,hB⟩:=hJF
   obtain ⟨e34,p34⟩:=hsF.at hupF 1 34 (by kernel_rfl) rfl j1
   obtain ⟨e35,p35⟩:=hsF.at hupF 2 35 (by kernel_rfl) rfl j2
   refine lin_call rfl 91 [Operand.tmp 34,Operand.tmp 35] _ [.agg (arr .u8 kl), .agg (arr .u8 sp)] rfl (by simp only [List.map_cons,List.map_nil,e34,e35] <;> rfl) (fun _ _=>by kernel_rfl) ?_
   refine Calls.mono (HMUL.out _ (HTQ.out.below hB.below)) ?_
   rintro e w1 ⟨rfl,hb⟩
   exact ⟨_,rfl,hKF _ _ ⟨j0,j1,j2,fun _ h=>⟨sI h,trivial⟩,j4,j5,hB.kept hb⟩⟩
  refine LinAll.cons (fun fF bF uF kF hJF hfF hcF hupF hsF hKF=>?_) ?_
  ·obtain ⟨j0,j1,j2,j3,j4,j5,hB⟩:=hJF
   obtain ⟨e33,p33⟩:=hsF.at hupF 0 33 (by kernel_rfl) rfl j0
   obtain ⟨e36,p36⟩:=hsF.at hupF 3 36 (by kernel_rfl) rfl j3
   refine lin_call rfl 90 [Operand.tmp 33,Operand.tmp 36] _ [.agg (arr .u8 rl), .agg (arr .u8 ml)] rfl (by simp only [List.map_cons,List.map_nil,e33,e36] <;> rfl) (fun _ _=>by kernel_rfl) ?_
   refine Calls.mono (HADD.out _ (HTQ.out.below hB.below)) ?_
   rintro e w1 ⟨rfl,hb⟩
   exact ⟨_,rfl,hKF _ _ ⟨j0,j1,j2,j3,fun _ h=>⟨sI h,trivial⟩,j5,hB.kept hb⟩⟩
  refine LinAll.cons (fun fF bF uF kF hJF hfF hcF hupF hsF hKF=>?_) ?_
  ·obtain ⟨j0,j1,j2,j3,j4,j5,hB⟩:=hJF
   have n6:=hcF.down 6 5 (by kernel_rfl) hfF
   refine step_alloc_row rfl 23 rfl _ (HZzn.out _) ?_
   have hB1:Blk w (uF.alloc (.cells (arr .u8 zn) 23)) ([(w.heap.size,arr .u8 ks, 23),(w.heap.size+1,arr .u8 zs64, 26),(gp,cup, 5),(g5,arr .u8 sp, 23),(g7,arr .u8 rl, 23),(g8,arr .u8 pl, 23),(g9,arr .u8 pk, 23),(gt5_7, #[.slice (some ⟨g8,0,none⟩) 32 32, .slice (some ⟨g9,0,none⟩) 32 32, .slice sb nb cb], 24),(gt5_8,arr .u8 kl, 23)] ++ (ent ((some (.pointer (some ⟨uF.heap.size,0,none⟩)):Option Value)) ((if (fF 6).isSome=true then arr .u8 sl else arr .u8 zn)) 23)):=hB.ins (a:=[(w.heap.size,arr .u8 ks, 23),(w.heap.size+1,arr .u8 zs64, 26),(gp,cup, 5),(g5,arr .u8 sp, 23),(g7,arr .u8 rl, 23),(g8,arr .u8 pl, 23),(g9,arr .u8 pk, 23),(gt5_7, #[.slice (some ⟨g8,0,none⟩) 32 32, .slice (some ⟨g9,0,none⟩) 32 32, .slice sb nb cb], 24),(gt5_8,arr .u8 kl, 23)]) (b:=[]) _ _ (by rw [hfF,n6];simp only [ent_none,List.nil_append,List.append_nil,List.append_assoc,List.cons_append]) (by rw [n6];simp only [ent_some,List.nil_append,List.append_nil,List.append_assoc,List.cons_append,Option.isSome_none,Bool.false_eq_true,if_false])
   exact hKF _ _ ⟨j0,j1,j2,j3,j4,fun _ h=>⟨_,sI h⟩,hB1⟩
  refine LinAll.cons (fun fF bF uF kF hJF hfF hcF hupF hsF hKF=>?_) ?_
  ·obtain ⟨j0,j1,j2,j3,j4,j5,hB⟩:=hJF
   have y5:=hupF 5 (by kernel_rfl)
   obtain ⟨v5,s5⟩:=sE y5
   obtain ⟨gt6_9,rfl⟩:=j5 _ s5
   have e11:=hsF.val 5 11 rfl s5
   obtain ⟨e37,p37⟩:=hsF.at hupF 4 37 (by kernel_rfl) rfl j4
   have hB':=hB
   rw [s5,hfF] at hB'
   refine step_store_whole rfl 23 (.tmp 11) (.tmp 37) rfl (gt6_9) (arr .u8 zn) _ 23 (hB'.get 9 rfl) e11 e37 (arr_len2 _ _ HSLL.out HLzn.out) (num_s HSLL.out) (all_arr _ _) ?_
   intro w1 hb1 hk1 hz1
   have hB1:Blk w w1 ([(w.heap.size,arr .u8 ks, 23),(w.heap.size+1,arr .u8 zs64, 26),(gp,cup, 5),(g5,arr .u8 sp, 23),(g7,arr .u8 rl, 23),(g8,arr .u8 pl, 23),(g9,arr .u8 pk, 23),(gt5_7, #[.slice (some ⟨g8,0,none⟩) 32 32, .slice (some ⟨g9,0,none⟩) 32 32, .slice sb nb cb], 24),(gt5_8,arr .u8 kl, 23)] ++ (ent (fF 5) ((if ((some undef:Option Value)).isSome=true then arr .u8 sl else arr .u8 zn)) 23)):=by rw [s5];exact hB'.put 9 rfl hk1 hb1
   exact hKF undef w1 ⟨j0,j1,j2,j3,j4,j5,hB1⟩
  exact LinAll.nil
 case et6 =>
 intro fF ut6 hall hJF
 obtain ⟨j0,j1,j2,j3,j4,j5,hB⟩:=hJF
 obtain ⟨v0,h0⟩:=sE (hall 0 (by decide))
 obtain ⟨rfl,p0⟩:=j0 _ h0
 obtain ⟨v1,h1⟩:=sE (hall 1 (by decide))
 obtain ⟨rfl,p1⟩:=j1 _ h1
 obtain ⟨v2,h2⟩:=sE (hall 2 (by decide))
 obtain ⟨rfl,p2⟩:=j2 _ h2
 obtain ⟨v3,h3⟩:=sE (hall 3 (by decide))
 obtain ⟨rfl,p3⟩:=j3 _ h3
 obtain ⟨v4,h4⟩:=sE (hall 4 (by decide))
 obtain ⟨rfl,p4⟩:=j4 _ h4
 obtain ⟨v5,h5⟩:=sE (hall 5 (by decide))
 obtain ⟨gt6_9,rfl⟩:=j5 _ h5
 obtain ⟨v6,h6⟩:=sE (hall 6 (by decide))
 rw [h5,h6] at hB
 have HBt6:Hid (Blk w ut6 [(w.heap.size,arr .u8 ks, 23),(w.heap.size+1,arr .u8 zs64, 26),(gp,cup, 5),(g5,arr .u8 sp, 23),(g7,arr .u8 rl, 23),(g8,arr .u8 pl, 23),(g9,arr .u8 pk, 23),(gt5_7, #[.slice (some ⟨g8,0,none⟩) 32 32, .slice (some ⟨g9,0,none⟩) 32 32, .slice sb nb cb], 24),(gt5_8,arr .u8 kl, 23),(gt6_9,arr .u8 sl, 23)]):=Lib.hid hB
 simp only [laid,Nat.zero_add,Nat.reduceAdd,h0,h1,h2,h3,h4,h5,h6,Act.put,sA,sZ,sS]
 clear j0 j1 j2 j3 j4 j5 hB h0 h1 h2 h3 h4 h5 h6 hall fF HBt5
 clear p0 p1 p2 p3 p4
 (try simp only [Exit.then])
 go_upto_region 8 with (first|((with_reducible refine aS 12 ?_);refine wpList_alloc_row rfl 26 rfl _ (HZzs64.out _) ?_;have HI30:=Lib.hid (HBt6.out.alloc (arr .u8 zs64) 26);generalize ut6.heap.size=g12 at HI30 ⊢; generalize ut6.alloc (.cells (arr .u8 zs64) 26)=w30 at HI30 ⊢))
 (try simp only [World.size_alloc,Act.put,sA,sZ,sS])
 refine wp_region_lin (fun (fF:Fill) (uF:World)=>(∀ v,fF 0=some v→v = .slice (some ⟨g12,0,none⟩) 32 64∧True)∧(∀ v,fF 1=some v→v = .slice (some ⟨g8,0,none⟩) 32 32∧True)∧(∀ v,fF 2=some v→v = .int .i64 ((32:Nat):Int)∧True)∧Blk w uF ([(w.heap.size,arr .u8 ks, 23),(w.heap.size+1,arr .u8 zs64, 26),(gp,cup, 5),(g5,arr .u8 sp, 23),(g7,arr .u8 rl, 23),(g8,arr .u8 pl, 23),(g9,arr .u8 pk, 23),(gt5_7, #[.slice (some ⟨g8,0,none⟩) 32 32, .slice (some ⟨g9,0,none⟩) 32 32, .slice sb nb cb], 24),(gt5_8,arr .u8 kl, 23),(gt6_9,arr .u8 sl, 23),(g12,(if (fF 2).isSome=true then arr .u8 m1 else arr .u8 zs64), 26)])) (by kernel_rfl) (by kernel_rfl) ?zt8 ?st8 ?et8
 case zt8=>exact ⟨fun _ h=>(by cases h),fun _ h=>(by cases h),fun _ h=>(by cases h),HI30.out.drew⟩
 case st8 =>
  refine LinAll.cons (fun fF bF uF kF hJF hfF hcF hupF hsF hKF=>?_) ?_
  ·obtain ⟨j0,j1,j2,hB⟩:=hJF
   have e12:bF.eval (.tmp 12) = .pointer (some ⟨g12,0,none⟩):=hsF.old' 12 (by kernel_rfl) rfl
   exact lin_pure rfl (.slice (some ⟨g12,0,none⟩) 32 64) (by simp only [execOp,e12];first|rfl|(go_simp;done)) (hKF _ _ ⟨fun _ h=>⟨sI h,trivial⟩,j1,j2,hB⟩)
  refine LinAll.cons (fun fF bF uF kF hJF hfF hcF hupF hsF hKF=>?_) ?_
  ·obtain ⟨j0,j1,j2,hB⟩:=hJF
   have e8:bF.eval (.tmp 8) = .pointer (some ⟨g8,0,none⟩):=hsF.old' 8 (by kernel_rfl) rfl
   exact lin_pure rfl (.slice (some ⟨g8,0,none⟩) 32 32) (by simp only [execOp,e8];first|rfl|(go_simp;done)) (hKF _ _ ⟨j0,fun _ h=>⟨sI h,trivial⟩,j2,hB⟩)
  refine LinAll.cons (fun fF bF uF kF hJF hfF hcF hupF hsF hKF=>?_) ?_
  ·obtain ⟨j0,j1,j2,hB⟩:=hJF
   obtain ⟨e38,p38⟩:=hsF.at hupF 0 38 (by kernel_rfl) rfl j0
   obtain ⟨e39,p39⟩:=hsF.at hupF 1 39 (by kernel_rfl) rfl j1
   have hB':=hB
   rw [hfF] at hB'
   refine step_copy rfl (.tmp 38) (.tmp 39) rfl g12 0 32 64 32 ⟨g8,0,none⟩ zs64 pl 26 e38 e39 (hB'.get 10 rfl) (HSR1.out _ _ (hB'.get 5 rfl)) (by rw [HLzs64.out];decide) ?_
   rw [HM1.out]
   intro w1 hb1 hk1
   have hB1:Blk w w1 ([(w.heap.size,arr .u8 ks, 23),(w.heap.size+1,arr .u8 zs64, 26),(gp,cup, 5),(g5,arr .u8 sp, 23),(g7,arr .u8 rl, 23),(g8,arr .u8 pl, 23),(g9,arr .u8 pk, 23),(gt5_7, #[.slice (some ⟨g8,0,none⟩) 32 32, .slice (some ⟨g9,0,none⟩) 32 32, .slice sb nb cb], 24),(gt5_8,arr .u8 kl, 23),(gt6_9,arr .u8 sl, 23),(g12,(if ((some (.int .i64 ((32:Nat):Int)):Option Value)).isSome=true then arr .u8 m1 else arr .u8 zs64), 26)]):=hB'.put 10 rfl hk1 hb1
   exact hKF _ _ ⟨j0,j1,fun _ h=>⟨sI h,trivial⟩,hB1⟩
  exact LinAll.nil
 case et8 =>
 intro fF ut8 hall hJF
 obtain ⟨j0,j1,j2,hB⟩:=hJF
 obtain ⟨v0,h0⟩:=sE (hall 0 (by decide))
 obtain ⟨rfl,p0⟩:=j0 _ h0
 obtain ⟨v1,h1⟩:=sE (hall 1 (by decide))
 obtain ⟨rfl,p1⟩:=j1 _ h1
 obtain ⟨v2,h2⟩:=sE (hall 2 (by decide))
 obtain ⟨rfl,p2⟩:=j2 _ h2
 rw [h2] at hB
 have HBt8:Hid (Blk w ut8 [(w.heap.size,arr .u8 ks, 23),(w.heap.size+1,arr .u8 zs64, 26),(gp,cup, 5),(g5,arr .u8 sp, 23),(g7,arr .u8 rl, 23),(g8,arr .u8 pl, 23),(g9,arr .u8 pk, 23),(gt5_7, #[.slice (some ⟨g8,0,none⟩) 32 32, .slice (some ⟨g9,0,none⟩) 32 32, .slice sb nb cb], 24),(gt5_8,arr .u8 kl, 23),(gt6_9,arr .u8 sl, 23),(g12,arr .u8 m1, 26)]):=Lib.hid hB
 simp only [laid,Nat.zero_add,Nat.reduceAdd,h0,h1,h2,Act.put,sA,sZ,sS]
 clear j0 j1 j2 hB h0 h1 h2 hall fF HI30
 clear p0 p1 p2
 (try simp only [Exit.then])
 go_upto_region 9 with fail
 (try simp only [World.size_alloc,Act.put,sA,sZ,sS])
 refine wp_region_lin (fun (fF:Fill) (uF:World)=>(∀ v,fF 0=some v→v = .slice (some ⟨g12,32,none⟩) 32 32∧True)∧(∀ v,fF 1=some v→v = .slice (some ⟨gt6_9,0,none⟩) 32 32∧True)∧(∀ v,fF 2=some v→v = .int .i64 ((32:Nat):Int)∧True)∧Blk w uF ([(w.heap.size,arr .u8 ks, 23),(w.heap.size+1,arr .u8 zs64, 26),(gp,cup, 5),(g5,arr .u8 sp, 23),(g7,arr .u8 rl, 23),(g8,arr .u8 pl, 23),(g9,arr .u8 pk, 23),(gt5_7, #[.slice (some ⟨g8,0,none⟩) 32 32, .slice (some ⟨g9,0,none⟩) 32 32, .slice sb nb cb], 24),(gt5_8,arr .u8 kl, 23),(gt6_9,arr .u8 sl, 23),(g12,(if (fF 2).isSome=true then arr .u8 res else arr .u8 m1), 26)])) (by kernel_rfl) (by kernel_rfl) ?zt9 ?st9 ?et9
 case zt9=>exact ⟨fun _ h=>(by cases h),fun _ h=>(by cases h),fun _ h=>(by cases h),HBt8.out.drew⟩
 case st9 =>
  refine LinAll.cons (fun fF bF uF kF hJF hfF hcF hupF hsF hKF=>?_) ?_
  ·obtain ⟨j0,j1,j2,hB⟩:=hJF
   have e12:bF.eval (.tmp 12) = .pointer (some ⟨g12,0,none⟩):=hsF.old' 12 (by kernel_rfl) rfl
   exact lin_pure rfl (.slice (some ⟨g12,32,none⟩) 32 32) (by simp only [execOp,e12];first|rfl|(go_simp;done)) (hKF _ _ ⟨fun _ h=>⟨sI h,trivial⟩,j1,j2,hB⟩)
  refine LinAll.cons (fun fF bF uF kF hJF hfF hcF hupF hsF hKF=>?_) ?_
  ·obtain ⟨j0,j1,j2,hB⟩:=hJF
   have e11:bF.eval (.tmp 11) = .pointer (some ⟨gt6_9,0,none⟩):=hsF.old' 11 (by kernel_rfl) rfl
   exact lin_pure rfl (.slice (some ⟨gt6_9,0,none⟩) 32 32) (by simp only [execOp,e11];first|rfl|(go_simp;done)) (hKF _ _ ⟨j0,fun _ h=>⟨sI h,trivial⟩,j2,hB⟩)
  refine LinAll.cons (fun fF bF uF kF hJF hfF hcF hupF hsF hKF=>?_) ?_
  ·obtain ⟨j0,j1,j2,hB⟩:=hJF
   obtain ⟨e41,p41⟩:=hsF.at hupF 0 41 (by kernel_rfl) rfl j0
   obtain ⟨e42,p42⟩:=hsF.at hupF 1 42 (by kernel_rfl) rfl j1
   have hB':=hB
   rw [hfF] at hB'
   refine step_copy rfl (.tmp 41) (.tmp 42) rfl g12 32 32 32 32 ⟨gt6_9,0,none⟩ m1 sl 26 e41 e42 (hB'.get 10 rfl) (HSR2.out _ _ (hB'.get 9 rfl)) (by rw [HM1L.out];decide) ?_
   rw [HM2.out]
   intro w1 hb1 hk1
   have hB1:Blk w w1 ([(w.heap.size,arr .u8 ks, 23),(w.heap.size+1,arr .u8 zs64, 26),(gp,cup, 5),(g5,arr .u8 sp, 23),(g7,arr .u8 rl, 23),(g8,arr .u8 pl, 23),(g9,arr .u8 pk, 23),(gt5_7, #[.slice (some ⟨g8,0,none⟩) 32 32, .slice (some ⟨g9,0,none⟩) 32 32, .slice sb nb cb], 24),(gt5_8,arr .u8 kl, 23),(gt6_9,arr .u8 sl, 23),(g12,(if ((some (.int .i64 ((32:Nat):Int)):Option Value)).isSome=true then arr .u8 res else arr .u8 m1), 26)]):=hB'.put 10 rfl hk1 hb1
   exact hKF _ _ ⟨j0,j1,fun _ h=>⟨sI h,trivial⟩,hB1⟩
  exact LinAll.nil
 case et9 =>
 intro fF ut9 hall hJF
 obtain ⟨j0,j1,j2,hB⟩:=hJF
 obtain ⟨v0,h0⟩:=sE (hall 0 (by decide))
 obtain ⟨rfl,p0⟩:=j0 _ h0
 obtain ⟨v1,h1⟩:=sE (hall 1 (by decide))
 obtain ⟨rfl,p1⟩:=j1 _ h1
 obtain ⟨v2,h2⟩:=sE (hall 2 (by decide))
 obtain ⟨rfl,p2⟩:=j2 _ h2
 rw [h2] at hB
 have HBt9:Hid (Blk w ut9 [(w.heap.size,arr .u8 ks, 23),(w.heap.size+1,arr .u8 zs64, 26),(gp,cup, 5),(g5,arr .u8 sp, 23),(g7,arr .u8 rl, 23),(g8,arr .u8 pl, 23),(g9,arr .u8 pk, 23),(gt5_7, #[.slice (some ⟨g8,0,none⟩) 32 32, .slice (some ⟨g9,0,none⟩) 32 32, .slice sb nb cb], 24),(gt5_8,arr .u8 kl, 23),(gt6_9,arr .u8 sl, 23),(g12,arr .u8 res, 26)]):=Lib.hid hB
 simp only [laid,Nat.zero_add,Nat.reduceAdd,h0,h1,h2,Act.put,sA,sZ,sS]
 clear j0 j1 j2 hB h0 h1 h2 hall fF HBt8
 clear p0 p1 p2
 (try simp only [Exit.then])
 go_wp2_with (first|((with_reducible refine aS 44 ?_);refine wpList_load_part rfl 26 _ rfl (g12) 0 _ 26 (0,0) _ (HBt9.out.get 10 rfl) rfl .u8 res (arr_part _ _) Tryd.underlying26 rfl (Sl.sig_i HRESL.out) ?_)|((with_reducible refine aT 4 ?_);refine wpList_store_whole rfl 26 _ _ rfl (w.heap.size+1) _ _ 26 (HBt9.out.get 1 rfl) rfl rfl (arr_len2 _ _ HRESL.out HLzs64.out) (Sl.sig_s HRESL.out) (all_arr _ _) ?_;intro w40 hb40 hk40 hz40;have HI40:=Lib.hid (HBt9.out.put 1 rfl hk40 hb40);clear hb40 hk40 hz40))
 (try simp only [Exit.then])
 refine bodyPost_ret (results_cell_row rfl _ _ (w.heap.size+1) 26 _ (0,0) _ rfl (HI40.out.get 1 rfl) Tryd.underlying26 rfl (Sl.sig_s HRESL.out)) rfl ?_
 exact ⟨rfl,HI40.out.below⟩
end Go.Proofs.YtodnkallpfkdiaaDoor.Rd
