/- manifest.Read. Condition: as each theorem says. -/

import Derived.Test.YthdgbgleklkaiaaDoorQa33
set_option linter.unusedSimpArgs false
set_option linter.unusedVariables false
set_option maxRecDepth 100000
set_option maxHeartbeats 16000000
namespace Go.Proofs.YthdgbgleklkaiaaDoor.Mf
open Go.RowKit Lm Fp Cu Sl Sc Ce
theorem tC (sa:Option Addr) (n c:Nat) (xs:List Int) (w:World) (hs:Src w sa n xs) (hx:bytes xs) (hn:n≤1099511627776) :
  Calls Tryd.prog 7 #[.slice sa n c] w fun e w'=>∃ M E,e = .returned (.tuple #[.agg M, .int .i64 E])∧((SG xs=true∧E=0∧∃ sw cw,M=aZ (fv xs) (fb xs) (Jb xs) (.slice sw (fws xs).length cw) (fi xs) (H9 xs) (Ia xs) (Hw xs)∧aV w' w.heap.size (.slice sw (fws xs).length cw) (fws xs))∨(SG xs=false∧E=4∧M=gU))∧Below w.heap.size w w':=by
 have hxl:xs.length≤1099511627776:=by rw [hs.len];exact hn
 have hml:=mc_len xs
 have hcn:=fun (u:World) (h:Src u sa n xs)=>Zn sa n c xs u h hn
 have hw1:∀ u p q,NS w u w.heap.size gU 30 xs false p q→Calls Tryd.prog 18 #[.pointer (some ⟨p,0,none⟩), .int .i64 4] u fun e w'=>∃ v,e = .returned v∧(convert 24 9 v).run Tryd.prog w' = .ok (.string (strOfNums (fH xs))) w'∧NS w w' w.heap.size gU 30 (GQ xs).1 (GQ xs).2 p q:=by
  intro u p q hu
  refine (pI p q xs false 4 u hu.c hxl).mono ?_
  rintro e w' ⟨v,rfl,ho,hc,hk⟩
  exact ⟨v,rfl,ho.str,hu.turn hk hc⟩
 have hw2:∀ u p q,NS w u w.heap.size gU 30 (GQ xs).1 (GQ xs).2 p q→Calls Tryd.prog 19 #[.pointer (some ⟨p,0,none⟩)] u fun e w'=>e = .returned (.int .i64 (fv xs))∧NS w w' w.heap.size gU 30 (ow xs).1 (ow xs).2 p q:=by
  intro u p q hu
  refine (zY p q (GQ xs).1 (GQ xs).2 u hu.c (Nat.le_trans hml.1 hxl)).mono ?_
  rintro e w' ⟨rfl,hc,hk⟩
  exact ⟨rfl,hu.turn hk hc⟩
 have hmk:∀ u p q g,NS w u w.heap.size gU 30 (ow xs).1 (ow xs).2 p q→u.heap[g]? = some (.cells gU 30 (0,0))→w.heap.size < g→g≠p→((ow xs).1≠[]→q≠g)→∀ u',Kept (fun x=>x=g) u u'→u'.heap[g]? = some (.cells (aZ (fv xs) 0 z32 (.slice none 0 0) 0 z32 z64 z64) 30 (0,0))→mQ w u' (ow xs).1 g (aZ (fv xs) 0 z32 (.slice none 0 0) 0 z32 z64 z64) (ow xs) p q :=
  fun u p q g hu hg h1 h2 h3 u' k hm=>mQ.put (M:=gU) ⟨hu.i,hg,hu.c,hu.p1,h2,h1,hu.p2,h3,id,hu.b⟩ k hm
 have hw3:∀ ⦃g:Nat⦄ ⦃M:Array Value⦄ (u:World) (p q:Nat),mQ w u (ow xs).1 g M (ow xs) p q→Calls Tryd.prog 19 #[.pointer (some ⟨p,0,none⟩)] u fun e w'=>e = .returned (.int .i64 (fb xs))∧mQ w w' (ow xs).1 g M (I8 xs) p q:=by
  intro g M u p q hu
  refine (zY p q (ow xs).1 (ow xs).2 u hu.cu (Nat.le_trans hml.2.1 hxl)).mono ?_
  rintro e w' ⟨rfl,hc,hk⟩
  exact ⟨rfl,hu.turn hk hc⟩
 have hw4:∀ ⦃g:Nat⦄ ⦃M:Array Value⦄ (u:World) (p q:Nat),mQ w u (ow xs).1 g M (I8 xs) p q→Calls Tryd.prog 20 #[.pointer (some ⟨p,0,none⟩)] u fun e w'=>e = .returned (.agg (arr .u8 (Jb xs)))∧mQ w w' (ow xs).1 g M (I7 xs) p q:=by
  intro g M u p q hu
  refine (OB p q (I8 xs).1 (I8 xs).2 u hu.cu (Nat.le_trans hml.2.2.1 hxl)).mono ?_
  rintro e w' ⟨rfl,hc,hk⟩
  exact ⟨rfl,hu.turn hk hc⟩
 have hw5:∀ ⦃g:Nat⦄ ⦃M:Array Value⦄ (u:World) (p q:Nat),mQ w u (ow xs).1 g M (I7 xs) p q→Calls Tryd.prog 18 #[.pointer (some ⟨p,0,none⟩), .int .i64 80] u fun e w'=>∃ s c,e = .returned (.slice s (fws xs).length c)∧aV w' (max p g+1) (.slice s (fws xs).length c) (fws xs)∧mQ w w' (ow xs).1 g M (I6 xs) p q:=by
  intro g M u p q hu
  refine (pI p q (I7 xs).1 (I7 xs).2 80 u hu.cu (Nat.le_trans hml.2.2.2.1 hxl)).mono ?_
  rintro e w' ⟨v,rfl,ho,hc,hk⟩
  obtain ⟨s,c,rfl, -⟩:=ho.form
  exact ⟨s,c,rfl,ho.mono (by have:=aR hu.m;have:=hu.cu.lt;omega),hu.turn hk hc⟩
 have hw6:∀ ⦃g:Nat⦄ ⦃M:Array Value⦄ (u:World) (p q:Nat),mQ w u (ow xs).1 g M (I6 xs) p q→Calls Tryd.prog 19 #[.pointer (some ⟨p,0,none⟩)] u fun e w'=>e = .returned (.int .i64 (fi xs))∧mQ w w' (ow xs).1 g M (I5 xs) p q∧Kept (· = p) u w':=by
  intro g M u p q hu
  refine (zY p q (I6 xs).1 (I6 xs).2 u hu.cu (Nat.le_trans hml.2.2.2.2.1 hxl)).mono ?_
  rintro e w' ⟨rfl,hc,hk⟩
  exact ⟨rfl,hu.turn hk hc,hk⟩
 have hw7:∀ ⦃g:Nat⦄ ⦃M:Array Value⦄ (u:World) (p q:Nat),mQ w u (ow xs).1 g M (I5 xs) p q→Calls Tryd.prog 20 #[.pointer (some ⟨p,0,none⟩)] u fun e w'=>e = .returned (.agg (arr .u8 (H9 xs)))∧mQ w w' (ow xs).1 g M (I4 xs) p q∧Kept (· = p) u w':=by
  intro g M u p q hu
  refine (OB p q (I5 xs).1 (I5 xs).2 u hu.cu (Nat.le_trans hml.2.2.2.2.2.1 hxl)).mono ?_
  rintro e w' ⟨rfl,hc,hk⟩
  exact ⟨rfl,hu.turn hk hc,hk⟩
 have hw8:∀ ⦃g:Nat⦄ ⦃M:Array Value⦄ (u:World) (p q:Nat),mQ w u (ow xs).1 g M (I4 xs) p q→Calls Tryd.prog 21 #[.pointer (some ⟨p,0,none⟩)] u fun e w'=>e = .returned (.agg (arr .u8 (Ia xs)))∧mQ w w' (ow xs).1 g M (JY xs) p q∧Kept (· = p) u w':=by
  intro g M u p q hu
  refine (Og p q (I4 xs).1 (I4 xs).2 u hu.cu (Nat.le_trans hml.2.2.2.2.2.2.1 hxl)).mono ?_
  rintro e w' ⟨rfl,hc,hk⟩
  exact ⟨rfl,hu.turn hk hc,hk⟩
 have hw9:∀ ⦃g:Nat⦄ ⦃M:Array Value⦄ (u:World) (p q:Nat),mQ w u (ow xs).1 g M (JY xs) p q→Calls Tryd.prog 21 #[.pointer (some ⟨p,0,none⟩)] u fun e w'=>e = .returned (.agg (arr .u8 (Hw xs)))∧mQ w w' (ow xs).1 g M (mc9 xs) p q∧Kept (· = p) u w':=by
  intro g M u p q hu
  refine (Og p q (JY xs).1 (JY xs).2 u hu.cu (Nat.le_trans hml.2.2.2.2.2.2.2 hxl)).mono ?_
  rintro e w' ⟨rfl,hc,hk⟩
  exact ⟨rfl,hu.turn hk hc,hk⟩
 have VN:∀ ⦃g:Nat⦄ ⦃M:Array Value⦄ (u:World) (p q:Nat),mQ w u (ow xs).1 g M (mc9 xs) p q→Calls Tryd.prog 22 #[.pointer (some ⟨p,0,none⟩)] u fun e w'=>e = .returned (.bool (fE xs))∧u=w':=fun _ _ u p q hu=>Zr p q _ _ u hu.cu
 have hq:((strOfNums (fH xs)).toList == [80,67,77,49])=decide (fH xs=[80,67,77,49]):=by
  have h1:=Sm.str_eq (fH xs) [80,67,77,49] (QI hx _ _).1 (by unfold bytes;decide)
  rwa [str_cm,cm_list] at h1
 have hlr:(Jb xs).length=32:=mG _ _ _
 have hlk:(H9 xs).length=32:=mG _ _ _
 have hlg:(Ia xs).length=64:=mG _ _ _
 have hls:(Hw xs).length=64:=mG _ _ _
 have tQ:=fun (s:Option Addr) (c:Nat) (u:World)=>tJ (ks:=H9 xs) (gs:=Ia xs) (ss:=Hw xs) (fv xs) (fb xs) (fi xs) s (fws xs).length c u hlr
 have hs0:=hs.below ((Below.refl _ w).alloc (Nat.le_refl _) (.cells gU 30))
 unfold SG
 generalize GQ xs=C1 at hw1 hw2
 generalize ow xs=C2 at hw2 hw3 hw4 hw5 hw6 hw7 hw8 hw9 VN hmk
 generalize I8 xs=C3 at hw3 hw4
 generalize I7 xs=C4 at hw4 hw5
 generalize I6 xs=C5 at hw5 hw6
 generalize I5 xs=C6 at hw6 hw7
 generalize I4 xs=C7 at hw7 hw8
 generalize JY xs=C8 at hw8 hw9
 generalize mc9 xs=C9 at hw9 VN
 generalize fv xs=fV at hw2 hmk tQ ⊢
 generalize fb xs=fB at hw3 tQ ⊢
 generalize Jb xs=fR at hw4 tQ hlr ⊢
 generalize fws xs=fW at hw5 tQ ⊢
 generalize fi xs=fI at hw6 tQ ⊢
 generalize H9 xs=fK at hw7 tQ hlk ⊢
 generalize Ia xs=fG at hw8 tQ hlg ⊢
 generalize Hw xs=fS at hw9 tQ hls ⊢
 generalize fE xs=fE_ at VN ⊢
 generalize fH xs=fH_ at hw1 hq ⊢
 generalize fW.length=nW at hw5 tQ ⊢
 obtain ⟨SH,hSH⟩:∃ x,x=strOfNums fH_:=⟨_,rfl⟩
 rw [← hSH] at hw1 hq
 obtain ⟨mz,hmz⟩:∃ m,m=gU:=⟨_,rfl⟩
 have HZC:Hid (gU=mz):=Lib.hid hmz.symm
 have HZM:Hid (mz.size=196):=Lib.hid (by rw [hmz];exact bL rfl rfl rfl rfl)
 have HZO:Hid (mz.all (·.oneCell')=true):=Lib.hid (by rw [hmz];exact iO rfl)
 have Pn:Hid ((Tryd.prog.info? 30).map (·.size)=some mz.size):=Lib.hid (by rw [HZM.out];exact dH)
 have HZ:Hid (∀ w,(zeroValue 30).run Tryd.prog w = .ok (.agg mz) w):=Lib.hid (by rw [hmz];exact mo)
 have HZ0:Hid (∀ w,(Instr.build 30 #[]).run Tryd.prog w = .ok (.agg mz) w):=Lib.hid (by rw [hmz];exact Ac)
 have HBV:=Lib.hid (L9 fV)
 have F7:Hid (Below w.heap.size w (w.alloc (.cells mz 30))):=Lib.hid ((Below.refl _ w).alloc (Nat.le_refl _) _)
 have HI0:Hid ((w.alloc (.cells mz 30)).heap[w.heap.size]? = some (.cells mz 30 (0,0))):=Lib.hid (aL w _)
 rw [← hmz] at hw1 hw2 hmk hs0 ⊢
 have hv0:(aZ fV 0 z32 (.slice none 0 0) 0 z32 z64 z64).size=196:=bL rfl rfl rfl rfl
 have wS:Hid ((aZ fV 0 z32 (.slice none 0 0) 0 z32 z64 z64).size=mz.size):=Lib.hid (by rw [hv0,HZM.out])
 have HVI:Hid ((Tryd.prog.info? 30).map (·.size)=some (aZ fV 0 z32 (.slice none 0 0) 0 z32 z64 z64).size):=Lib.hid (by rw [hv0];exact dH)
 have HVO:Hid ((aZ fV 0 z32 (.slice none 0 0) 0 z32 z64 z64).all (·.oneCell')=true):=Lib.hid (iO rfl)
 have EZ:Hid (((aZ fV fB z32 (.slice none 0 0) 0 z32 z64 z64).toList.take 2 ++ (arr .u8 fR).toList ++ (aZ fV fB z32 (.slice none 0 0) 0 z32 z64 z64).toList.drop (2+(arr .u8 fR).size)).toArray=aZ fV fB fR (.slice none 0 0) 0 z32 z64 z64):=Lib.hid (Q7 rfl hlr)
 have Pw:Hid (2+(arr .u8 fR).size≤(aZ fV fB z32 (.slice none 0 0) 0 z32 z64 z64).size):=Lib.hid (by rw [aF,hlr,bL rfl rfl rfl rfl];omega)
 have xH:Hid (∀ wv,((aZ fV fB fR wv fI z32 z64 z64).toList.take 36 ++ (arr .u8 fK).toList ++ (aZ fV fB fR wv fI z32 z64 z64).toList.drop (36+(arr .u8 fK).size)).toArray=aZ fV fB fR wv fI fK z64 z64):=Lib.hid (fun wv=>J3 hlr rfl hlk)
 have jX:Hid (∀ wv,36+(arr .u8 fK).size≤(aZ fV fB fR wv fI z32 z64 z64).size):=Lib.hid (fun wv=>by rw [aF,hlk,bL hlr rfl rfl rfl];omega)
 have xG:Hid (∀ wv,((aZ fV fB fR wv fI fK z64 z64).toList.take 68 ++ (arr .u8 fG).toList ++ (aZ fV fB fR wv fI fK z64 z64).toList.drop (68+(arr .u8 fG).size)).toArray=aZ fV fB fR wv fI fK fG z64):=Lib.hid (fun wv=>J2 hlr hlk rfl hlg)
 have jW:Hid (∀ wv,68+(arr .u8 fG).size≤(aZ fV fB fR wv fI fK z64 z64).size):=Lib.hid (fun wv=>by rw [aF,hlg,bL hlr hlk rfl rfl];omega)
 have nZ:Hid (∀ wv,((aZ fV fB fR wv fI fK fG z64).toList.take 132 ++ (arr .u8 fS).toList ++ (aZ fV fB fR wv fI fK fG z64).toList.drop (132+(arr .u8 fS).size)).toArray=aZ fV fB fR wv fI fK fG fS):=Lib.hid (fun wv=>wM hlr hlk hlg rfl hls)
 have iT:Hid (∀ wv,132+(arr .u8 fS).size≤(aZ fV fB fR wv fI fK fG z64).size):=Lib.hid (fun wv=>by rw [aF,hls,bL hlr hlk hlg rfl];omega)
 have HCN:=Lib.hid hcn
 have HW1:=Lib.hid hw1
 have HW2:=Lib.hid hw2
 have HMK:=Lib.hid hmk
 have HW3:=Lib.hid hw3
 have HW4:=Lib.hid hw4
 have HW5:=Lib.hid hw5
 have SN:=Lib.hid hw6
 have HW7:=Lib.hid hw7
 have HW8:=Lib.hid hw8
 have SK:=Lib.hid hw9
 have Sn:=Lib.hid VN
 have xJ:=Lib.hid hlr
 have HLK:=Lib.hid hlk
 have HLG:=Lib.hid hlg
 have HLS:=Lib.hid hls
 have HS:=Lib.hid hs0
 clear hs hx hn hxl hml hcn hw1 hw2 hmk hw3 hw4 hw5 hw6 hw7 hw8 hw9 VN hlr hlk hlg hls hs0 hmz hv0 hSH
 cases fE_ with
 | false =>
  have HMY:=Lib.hid tQ
  clear tQ
  simp only [Bool.false_and,Bool.false_eq_true,false_and,false_or,true_and]
  go_enter Tryd.func7, Tryd.ntmps7
  go_upto_region 1 with ((with_reducible refine aS 2 ?_);refine aj rfl 30 rfl _ (HZ.out _) ?_)
  generalize w.alloc (.cells mz 30)=wb at F7 HI0 HS ⊢
  go_upto_region 2 with (go_at_call 17; refine (HCN.out _ HS.out).mono ?_;rintro e w1 ⟨p,q,rfl,hc1,hp1,hq1,hb1⟩;have HR1:Hid (NS w w1 w.heap.size mz 30 xs false p q):=Lib.hid ⟨Below.blk hb1 HI0.out (aR HI0.out),hc1,(by have:=aR HI0.out;omega),(by have:=aR HI0.out;omega),F7.out.trans (hb1.mono F7.out.size)⟩;clear hc1 hp1 hq1 hb1)
  go_upto_region 3 with (go_at_call 18; refine (HW1.out _ _ _ HR1.out).mono ?_;rintro e w2 ⟨v2,rfl,hv2,hr2⟩;have HR2:=Lib.hid hr2;clear hr2)
  clear hv2
  go_upto_region 4 with (first|(go_at_call 19; refine (HW2.out _ _ _ HR2.out).mono ?_;rintro e w3 ⟨rfl,hr3⟩;have HR3:=Lib.hid hr3;clear hr3)|((with_reducible refine aS 14 ?_);refine wpList_build (by rfl) 30 _ rfl #[(0, .int .i64 fV)] rfl _ (HBV.out _) ?_)|((with_reducible refine aS 6 ?_);refine aj rfl 30 rfl _ (HZ.out _) ?_;have HR4:=Lib.hid (HR3.out.fresh ((Below.refl _ w3).alloc (Nat.le_refl _) (.cells mz 30)));have HI4:Hid ((w3.alloc (.cells mz 30)).heap[w3.heap.size]? = some (.cells mz 30 (0,0))):=Lib.hid (aL w3 _);have mU:Hid (w.heap.size < w3.heap.size∧w3.heap.size≠p∧(C2.1≠[]→q≠w3.heap.size)):=Lib.hid ⟨aR HR3.out.i,(by have:=HR3.out.c.lt;omega),fun hz=>by have:=HR3.out.c.qlt hz;omega⟩;generalize w3.heap.size=g6 at HI4 mU ⊢; generalize w3.alloc (.cells mz 30)=w4 at HR4 HI4 ⊢)|((with_reducible refine aT 6 ?_);refine ah rfl 30 _ _ rfl (g6) _ _ 30 HI4.out rfl rfl wS.out HVI.out HVO.out ?_;intro w5 hb5 hk5 Rh;have EY:=Lib.hid (HMK.out _ _ _ _ HR4.out HI4.out mU.out.1 mU.out.2.1 mU.out.2.2 _ hk5 hb5);clear hb5 hk5 Rh))
  (try simp only [World.size_alloc,Act.put,sA,sZ,sS])
  clear HR1 HR2 HR3 HR4 HI4 mU
  have hfr:∀ u:World,mQ w u C2.1 g6 (aZ fV 0 z32 (.slice none 0 0) 0 z32 z64 z64) C3 p q→u.cell? ⟨g6,1,none⟩=some (.int .i64 0)∧u.frozen? ⟨g6,1,none⟩=false:=fun u h=>⟨by rw [aG h.m];exact lW,aC h.m 1⟩
  have qc:=Lib.hid hfr
  clear hfr
  go_upto_region 5 with (go_at_call 19; refine (HW3.out _ _ _ EY.out).mono ?_;rintro e w6 ⟨rfl,hr⟩;have Mx:=Lib.hid hr;obtain ⟨Aa,sH⟩:=qc.out _ hr;clear hr)
  obtain ⟨w7,hw⟩:∃ x,x=w6.setCell ⟨g6,1,none⟩ (.int .i64 fB):=⟨_,rfl⟩
  rw [← hw]
  have BL:=Lib.hid (Mx.out.set 1 (.int .i64 fB))
  rw [qo,← hw] at BL
  clear hw Aa sH qc EY Mx
  go_upto_region 6 with (first|(go_at_call 20; refine (HW4.out _ _ _ BL.out).mono ?_;rintro e w8 ⟨rfl,hr⟩;have vP:=Lib.hid hr;clear hr)|((with_reducible refine aT 20 ?_);refine bq rfl 23 _ _ rfl g6 2 _ (arr .u8 fR) 30 vP.out.m rfl rfl Pw.out (Sl.bE xJ.out) (av _ _) ?_;intro w9 hb hk hz;rw [EZ.out] at hb;have EX:=Lib.hid (vP.out.put hk hb);clear hb hk hz))
  clear BL vP
  have hfr:∀ u:World,mQ w u C2.1 g6 (aZ fV fB fR (.slice none 0 0) 0 z32 z64 z64) C5 p q→u.cell? ⟨g6,34,none⟩=some (.slice none 0 0)∧u.frozen? ⟨g6,34,none⟩=false:=fun u h=>⟨by rw [aG h.m];exact gI xJ.out,aC h.m 34⟩
  have qc:=Lib.hid hfr
  clear hfr
  go_upto_region 7 with (go_at_call 18; refine (HW5.out _ _ _ EX.out).mono ?_;rintro e TH ⟨s10,c10,rfl,ho,hr⟩;have pW:=Lib.hid hr;have pX:=Lib.hid ho;obtain ⟨Aa,sH⟩:=qc.out _ hr;clear hr ho)
  obtain ⟨w11,hw⟩:∃ x,x=TH.setCell ⟨g6,34,none⟩ (.slice s10 nW c10):=⟨_,rfl⟩
  rw [← hw]
  have rO:=Lib.hid (pW.out.set 34 (.slice s10 nW c10))
  rw [kY xJ.out,← hw] at rO
  have rX:Hid (aV w11 (max p g6+1) (.slice s10 nW c10) fW):=Lib.hid (by rw [hw];exact (pX.out).kept (T:=fun x=>x=g6) ((Kept.refl _ _).at _ _) (fun k e he=>by have:=pX.out.lt k e;omega))
  clear hw Aa sH qc EX pW pX
  have hfr:∀ u:World,mQ w u C2.1 g6 (aZ fV fB fR (.slice s10 nW c10) 0 z32 z64 z64) C6 p q→u.cell? ⟨g6,35,none⟩=some (.int .i64 0)∧u.frozen? ⟨g6,35,none⟩=false:=fun u h=>⟨by rw [aG h.m];exact nH xJ.out,aC h.m 35⟩
  have qc:=Lib.hid hfr
  clear hfr
  go_upto_region 8 with (go_at_call 19; refine (SN.out _ _ _ rO.out).mono ?_;rintro e w12 ⟨rfl,hr,hk⟩;have Am:=Lib.hid hr;have rW:=Lib.hid (rX.out.kept hk (fun k e he=>by have:=rX.out.lt k e;omega));obtain ⟨Aa,sH⟩:=qc.out _ hr;clear hr hk)
  obtain ⟨w13,hw⟩:∃ x,x=w12.setCell ⟨g6,35,none⟩ (.int .i64 fI):=⟨_,rfl⟩
  rw [← hw]
  have rM:=Lib.hid (Am.out.set 35 (.int .i64 fI))
  rw [nG xJ.out,← hw] at rM
  have rV:Hid (aV w13 (max p g6+1) (.slice s10 nW c10) fW):=Lib.hid (by rw [hw];exact (rW.out).kept (T:=fun x=>x=g6) ((Kept.refl _ _).at _ _) (fun k e he=>by have:=rW.out.lt k e;omega))
  clear hw Aa sH qc rO Am rX rW
  have xH:=Lib.hid (xH.out (.slice s10 nW c10))
  have xG:=Lib.hid (xG.out (.slice s10 nW c10))
  have nZ:=Lib.hid (nZ.out (.slice s10 nW c10))
  have jX:=Lib.hid (jX.out (.slice s10 nW c10))
  have jW:=Lib.hid (jW.out (.slice s10 nW c10))
  have iT:=Lib.hid (iT.out (.slice s10 nW c10))
  go_upto_region 9 with (first|(go_at_call 20; refine (HW7.out _ _ _ rM.out).mono ?_;rintro e w14 ⟨rfl,hr,hk⟩;have rJ:=Lib.hid hr;have rU:=Lib.hid (rV.out.kept hk (fun k e he=>by have:=rV.out.lt k e;omega));clear hr hk)|((with_reducible refine aT 31 ?_);refine bq rfl 23 _ _ rfl g6 36 _ (arr .u8 fK) 30 rJ.out.m rfl rfl jX.out (Sl.bE HLK.out) (av _ _) ?_;intro w15 hb hk hz;rw [xH.out] at hb;have Al:=Lib.hid (rJ.out.put hk hb);have rT:=Lib.hid (rU.out.kept hk (fun k e he=>by have:=rU.out.lt k e;omega));clear hb hk hz))
  clear rM rJ rV rU
  go_upto_region 10 with (first|(go_at_call 21; refine (HW8.out _ _ _ Al.out).mono ?_;rintro e w16 ⟨rfl,hr,hk⟩;have rH:=Lib.hid hr;have rR:=Lib.hid (rT.out.kept hk (fun k e he=>by have:=rT.out.lt k e;omega));clear hr hk)|((with_reducible refine aT 35 ?_);refine bq rfl 26 _ _ rfl g6 68 _ (arr .u8 fG) 30 rH.out.m rfl rfl jW.out (Sl.kS HLG.out) (av _ _) ?_;intro w17 hb hk hz;rw [xG.out] at hb;have Ak:=Lib.hid (rH.out.put hk hb);have rQ:=Lib.hid (rR.out.kept hk (fun k e he=>by have:=rR.out.lt k e;omega));clear hb hk hz))
  clear Al rH rT rR
  go_upto_region 11 with (first|(go_at_call 21; refine (SK.out _ _ _ Ak.out).mono ?_;rintro e w18 ⟨rfl,hr,hk⟩;have rG:=Lib.hid hr;have rP:=Lib.hid (rQ.out.kept hk (fun k e he=>by have:=rQ.out.lt k e;omega));clear hr hk)|((with_reducible refine aT 38 ?_);refine bq rfl 26 _ _ rfl g6 132 _ (arr .u8 fS) 30 rG.out.m rfl rfl iT.out (Sl.kS HLS.out) (av _ _) ?_;intro w19 hb hk hz;rw [nZ.out] at hb;have jY:=Lib.hid (rG.out.put hk hb);have ME:=Lib.hid (rP.out.kept hk (fun k e he=>by have:=rP.out.lt k e;omega));clear hb hk hz))
  clear Ak rG rQ rP
  have F6:Hid ((Tryd.prog.info? 30).map (·.size)=some (aZ fV fB fR (.slice s10 nW c10) fI fK fG fS).size):=Lib.hid (by rw [bL xJ.out HLK.out HLG.out HLS.out];exact dH)
  have Ao:=Lib.hid (HMY.out s10 c10)
  obtain ⟨FM,Lr⟩:∃ M,M=aZ fV fB fR (.slice s10 nW c10) fI fK fG fS:=⟨_,rfl⟩
  have HFE:=Lib.hid Lr
  rw [← Lr] at jY F6 Ao
  clear Lr
  go_wp2_with (first|((with_reducible show Calls _ 22 _ _ _);go_at_call 22; refine (Sn.out _ _ _ jY.out).mono ?_;rintro e w20 ⟨rfl,rfl⟩)|((with_reducible refine aS 47 ?_);refine eG (by rfl) 30 _ rfl g6 rfl 30 _ (0,0) _ jY.out.m Tryd.underlying30 rfl F6.out ?_)|((with_reducible show Calls _ 23 _ _ _);go_at_call 23; refine (Ao.out _).mono ?_;rintro e w21 ⟨rfl,hb⟩;have xE:=Lib.hid (jY.out.fresh hb);have aaB:=Lib.hid (ME.out.below hb);clear hb)|((with_reducible refine aS 51 ?_);refine wpList_build (by rfl) 30 _ rfl #[] rfl _ (HZ0.out _) ?_)|((with_reducible refine aT 2 ?_);refine ah rfl 30 _ _ rfl (w.heap.size) _ _ 30 (by have h:=jY.out.i;rw [HZC.out] at h;exact h) rfl rfl rfl Pn.out HZO.out ?_;intro w22 tX tV Es;have Nt:=Lib.hid tX;have kJ:=Lib.hid tV;clear tX tV Es))
  all_goals (try simp only [Exit.then])
  refine bodyPost_ret (aP rfl _ _ (w.heap.size) 30 _ (0,0) _ _ rfl Nt.out Tryd.underlying30 rfl Pn.out rfl) rfl ?_
  exact ⟨_,_,rfl,⟨rfl,rfl⟩,jY.out.b.trans ⟨kJ.out.os,kJ.out.tape,kJ.out.output,kJ.out.size,fun i hi=>kJ.out.block i (Nat.lt_of_lt_of_le hi jY.out.b.size) (by omega)⟩⟩
 | true =>
  by_cases hH:fH_=[80,67,77,49]
  ·rw [decide_eq_true hH] at hq ⊢
   clear hH
   cases hok:iJ fV fB nW fI with
   | false =>
    rw [hok] at tQ
    have HMY:=Lib.hid tQ
    clear tQ hok
    simp only [Bool.and_false,Bool.false_eq_true,false_and,false_or,true_and]
    go_enter Tryd.func7, Tryd.ntmps7
    go_upto_region 1 with ((with_reducible refine aS 2 ?_);refine aj rfl 30 rfl _ (HZ.out _) ?_)
    generalize w.alloc (.cells mz 30)=wb at F7 HI0 HS ⊢
    go_upto_region 2 with (go_at_call 17; refine (HCN.out _ HS.out).mono ?_;rintro e w1 ⟨p,q,rfl,hc1,hp1,hq1,hb1⟩;have HR1:Hid (NS w w1 w.heap.size mz 30 xs false p q):=Lib.hid ⟨Below.blk hb1 HI0.out (aR HI0.out),hc1,(by have:=aR HI0.out;omega),(by have:=aR HI0.out;omega),F7.out.trans (hb1.mono F7.out.size)⟩;clear hc1 hp1 hq1 hb1)
    go_upto_region 3 with (go_at_call 18; refine (HW1.out _ _ _ HR1.out).mono ?_;rintro e w2 ⟨v2,rfl,hv2,hr2⟩;have HR2:=Lib.hid hr2;clear hr2)
    clear hv2
    go_upto_region 4 with (first|(go_at_call 19; refine (HW2.out _ _ _ HR2.out).mono ?_;rintro e w3 ⟨rfl,hr3⟩;have HR3:=Lib.hid hr3;clear hr3)|((with_reducible refine aS 14 ?_);refine wpList_build (by rfl) 30 _ rfl #[(0, .int .i64 fV)] rfl _ (HBV.out _) ?_)|((with_reducible refine aS 6 ?_);refine aj rfl 30 rfl _ (HZ.out _) ?_;have HR4:=Lib.hid (HR3.out.fresh ((Below.refl _ w3).alloc (Nat.le_refl _) (.cells mz 30)));have HI4:Hid ((w3.alloc (.cells mz 30)).heap[w3.heap.size]? = some (.cells mz 30 (0,0))):=Lib.hid (aL w3 _);have mU:Hid (w.heap.size < w3.heap.size∧w3.heap.size≠p∧(C2.1≠[]→q≠w3.heap.size)):=Lib.hid ⟨aR HR3.out.i,(by have:=HR3.out.c.lt;omega),fun hz=>by have:=HR3.out.c.qlt hz;omega⟩;generalize w3.heap.size=g6 at HI4 mU ⊢; generalize w3.alloc (.cells mz 30)=w4 at HR4 HI4 ⊢)|((with_reducible refine aT 6 ?_);refine ah rfl 30 _ _ rfl (g6) _ _ 30 HI4.out rfl rfl wS.out HVI.out HVO.out ?_;intro w5 hb5 hk5 Rh;have EY:=Lib.hid (HMK.out _ _ _ _ HR4.out HI4.out mU.out.1 mU.out.2.1 mU.out.2.2 _ hk5 hb5);clear hb5 hk5 Rh))
    (try simp only [World.size_alloc,Act.put,sA,sZ,sS])
    clear HR1 HR2 HR3 HR4 HI4 mU
    have hfr:∀ u:World,mQ w u C2.1 g6 (aZ fV 0 z32 (.slice none 0 0) 0 z32 z64 z64) C3 p q→u.cell? ⟨g6,1,none⟩=some (.int .i64 0)∧u.frozen? ⟨g6,1,none⟩=false:=fun u h=>⟨by rw [aG h.m];exact lW,aC h.m 1⟩
    have qc:=Lib.hid hfr
    clear hfr
    go_upto_region 5 with (go_at_call 19; refine (HW3.out _ _ _ EY.out).mono ?_;rintro e w6 ⟨rfl,hr⟩;have Mx:=Lib.hid hr;obtain ⟨Aa,sH⟩:=qc.out _ hr;clear hr)
    obtain ⟨w7,hw⟩:∃ x,x=w6.setCell ⟨g6,1,none⟩ (.int .i64 fB):=⟨_,rfl⟩
    rw [← hw]
    have BL:=Lib.hid (Mx.out.set 1 (.int .i64 fB))
    rw [qo,← hw] at BL
    clear hw Aa sH qc EY Mx
    go_upto_region 6 with (first|(go_at_call 20; refine (HW4.out _ _ _ BL.out).mono ?_;rintro e w8 ⟨rfl,hr⟩;have vP:=Lib.hid hr;clear hr)|((with_reducible refine aT 20 ?_);refine bq rfl 23 _ _ rfl g6 2 _ (arr .u8 fR) 30 vP.out.m rfl rfl Pw.out (Sl.bE xJ.out) (av _ _) ?_;intro w9 hb hk hz;rw [EZ.out] at hb;have EX:=Lib.hid (vP.out.put hk hb);clear hb hk hz))
    clear BL vP
    have hfr:∀ u:World,mQ w u C2.1 g6 (aZ fV fB fR (.slice none 0 0) 0 z32 z64 z64) C5 p q→u.cell? ⟨g6,34,none⟩=some (.slice none 0 0)∧u.frozen? ⟨g6,34,none⟩=false:=fun u h=>⟨by rw [aG h.m];exact gI xJ.out,aC h.m 34⟩
    have qc:=Lib.hid hfr
    clear hfr
    go_upto_region 7 with (go_at_call 18; refine (HW5.out _ _ _ EX.out).mono ?_;rintro e TH ⟨s10,c10,rfl,ho,hr⟩;have pW:=Lib.hid hr;have pX:=Lib.hid ho;obtain ⟨Aa,sH⟩:=qc.out _ hr;clear hr ho)
    obtain ⟨w11,hw⟩:∃ x,x=TH.setCell ⟨g6,34,none⟩ (.slice s10 nW c10):=⟨_,rfl⟩
    rw [← hw]
    have rO:=Lib.hid (pW.out.set 34 (.slice s10 nW c10))
    rw [kY xJ.out,← hw] at rO
    have rX:Hid (aV w11 (max p g6+1) (.slice s10 nW c10) fW):=Lib.hid (by rw [hw];exact (pX.out).kept (T:=fun x=>x=g6) ((Kept.refl _ _).at _ _) (fun k e he=>by have:=pX.out.lt k e;omega))
    clear hw Aa sH qc EX pW pX
    have hfr:∀ u:World,mQ w u C2.1 g6 (aZ fV fB fR (.slice s10 nW c10) 0 z32 z64 z64) C6 p q→u.cell? ⟨g6,35,none⟩=some (.int .i64 0)∧u.frozen? ⟨g6,35,none⟩=false:=fun u h=>⟨by rw [aG h.m];exact nH xJ.out,aC h.m 35⟩
    have qc:=Lib.hid hfr
    clear hfr
    go_upto_region 8 with (go_at_call 19; refine (SN.out _ _ _ rO.out).mono ?_;rintro e w12 ⟨rfl,hr,hk⟩;have Am:=Lib.hid hr;have rW:=Lib.hid (rX.out.kept hk (fun k e he=>by have:=rX.out.lt k e;omega));obtain ⟨Aa,sH⟩:=qc.out _ hr;clear hr hk)
    obtain ⟨w13,hw⟩:∃ x,x=w12.setCell ⟨g6,35,none⟩ (.int .i64 fI):=⟨_,rfl⟩
    rw [← hw]
    have rM:=Lib.hid (Am.out.set 35 (.int .i64 fI))
    rw [nG xJ.out,← hw] at rM
    have rV:Hid (aV w13 (max p g6+1) (.slice s10 nW c10) fW):=Lib.hid (by rw [hw];exact (rW.out).kept (T:=fun x=>x=g6) ((Kept.refl _ _).at _ _) (fun k e he=>by have:=rW.out.lt k e;omega))
    clear hw Aa sH qc rO Am rX rW
    have xH:=Lib.hid (xH.out (.slice s10 nW c10))
    have xG:=Lib.hid (xG.out (.slice s10 nW c10))
    have nZ:=Lib.hid (nZ.out (.slice s10 nW c10))
    have jX:=Lib.hid (jX.out (.slice s10 nW c10))
    have jW:=Lib.hid (jW.out (.slice s10 nW c10))
    have iT:=Lib.hid (iT.out (.slice s10 nW c10))
    go_upto_region 9 with (first|(go_at_call 20; refine (HW7.out _ _ _ rM.out).mono ?_;rintro e w14 ⟨rfl,hr,hk⟩;have rJ:=Lib.hid hr;have rU:=Lib.hid (rV.out.kept hk (fun k e he=>by have:=rV.out.lt k e;omega));clear hr hk)|((with_reducible refine aT 31 ?_);refine bq rfl 23 _ _ rfl g6 36 _ (arr .u8 fK) 30 rJ.out.m rfl rfl jX.out (Sl.bE HLK.out) (av _ _) ?_;intro w15 hb hk hz;rw [xH.out] at hb;have Al:=Lib.hid (rJ.out.put hk hb);have rT:=Lib.hid (rU.out.kept hk (fun k e he=>by have:=rU.out.lt k e;omega));clear hb hk hz))
    clear rM rJ rV rU
    go_upto_region 10 with (first|(go_at_call 21; refine (HW8.out _ _ _ Al.out).mono ?_;rintro e w16 ⟨rfl,hr,hk⟩;have rH:=Lib.hid hr;have rR:=Lib.hid (rT.out.kept hk (fun k e he=>by have:=rT.out.lt k e;omega));clear hr hk)|((with_reducible refine aT 35 ?_);refine bq rfl 26 _ _ rfl g6 68 _ (arr .u8 fG) 30 rH.out.m rfl rfl jW.out (Sl.kS HLG.out) (av _ _) ?_;intro w17 hb hk hz;rw [xG.out] at hb;have Ak:=Lib.hid (rH.out.put hk hb);have rQ:=Lib.hid (rR.out.kept hk (fun k e he=>by have:=rR.out.lt k e;omega));clear hb hk hz))
    clear Al rH rT rR
    go_upto_region 11 with (first|(go_at_call 21; refine (SK.out _ _ _ Ak.out).mono ?_;rintro e w18 ⟨rfl,hr,hk⟩;have rG:=Lib.hid hr;have rP:=Lib.hid (rQ.out.kept hk (fun k e he=>by have:=rQ.out.lt k e;omega));clear hr hk)|((with_reducible refine aT 38 ?_);refine bq rfl 26 _ _ rfl g6 132 _ (arr .u8 fS) 30 rG.out.m rfl rfl iT.out (Sl.kS HLS.out) (av _ _) ?_;intro w19 hb hk hz;rw [nZ.out] at hb;have jY:=Lib.hid (rG.out.put hk hb);have ME:=Lib.hid (rP.out.kept hk (fun k e he=>by have:=rP.out.lt k e;omega));clear hb hk hz))
    clear Ak rG rQ rP
    have F6:Hid ((Tryd.prog.info? 30).map (·.size)=some (aZ fV fB fR (.slice s10 nW c10) fI fK fG fS).size):=Lib.hid (by rw [bL xJ.out HLK.out HLG.out HLS.out];exact dH)
    have Ao:=Lib.hid (HMY.out s10 c10)
    obtain ⟨FM,Lr⟩:∃ M,M=aZ fV fB fR (.slice s10 nW c10) fI fK fG fS:=⟨_,rfl⟩
    have HFE:=Lib.hid Lr
    rw [← Lr] at jY F6 Ao
    clear Lr
    go_wp2_with (first|((with_reducible show Calls _ 22 _ _ _);go_at_call 22; refine (Sn.out _ _ _ jY.out).mono ?_;rintro e w20 ⟨rfl,rfl⟩)|((with_reducible refine aS 47 ?_);refine eG (by rfl) 30 _ rfl g6 rfl 30 _ (0,0) _ jY.out.m Tryd.underlying30 rfl F6.out ?_)|((with_reducible show Calls _ 23 _ _ _);go_at_call 23; refine (Ao.out _).mono ?_;rintro e w21 ⟨rfl,hb⟩;have xE:=Lib.hid (jY.out.fresh hb);have aaB:=Lib.hid (ME.out.below hb);clear hb)|((with_reducible refine aS 51 ?_);refine wpList_build (by rfl) 30 _ rfl #[] rfl _ (HZ0.out _) ?_)|((with_reducible refine aT 2 ?_);refine ah rfl 30 _ _ rfl (w.heap.size) _ _ 30 (by have h:=xE.out.i;rw [HZC.out] at h;exact h) rfl rfl rfl Pn.out HZO.out ?_;intro w22 tX tV Es;have Nt:=Lib.hid tX;have kJ:=Lib.hid tV;clear tX tV Es))
    all_goals (try simp only [Exit.then])
    refine bodyPost_ret (aP rfl _ _ (w.heap.size) 30 _ (0,0) _ _ rfl Nt.out Tryd.underlying30 rfl Pn.out rfl) rfl ?_
    exact ⟨_,_,rfl,⟨rfl,rfl⟩,xE.out.b.trans ⟨kJ.out.os,kJ.out.tape,kJ.out.output,kJ.out.size,fun i hi=>kJ.out.block i (Nat.lt_of_lt_of_le hi xE.out.b.size) (by omega)⟩⟩
   | true =>
    rw [hok] at tQ
    have HMY:=Lib.hid tQ
    clear tQ hok
    go_enter Tryd.func7, Tryd.ntmps7
    go_upto_region 1 with ((with_reducible refine aS 2 ?_);refine aj rfl 30 rfl _ (HZ.out _) ?_)
    generalize w.alloc (.cells mz 30)=wb at F7 HI0 HS ⊢
    go_upto_region 2 with (go_at_call 17; refine (HCN.out _ HS.out).mono ?_;rintro e w1 ⟨p,q,rfl,hc1,hp1,hq1,hb1⟩;have HR1:Hid (NS w w1 w.heap.size mz 30 xs false p q):=Lib.hid ⟨Below.blk hb1 HI0.out (aR HI0.out),hc1,(by have:=aR HI0.out;omega),(by have:=aR HI0.out;omega),F7.out.trans (hb1.mono F7.out.size)⟩;clear hc1 hp1 hq1 hb1)
    go_upto_region 3 with (go_at_call 18; refine (HW1.out _ _ _ HR1.out).mono ?_;rintro e w2 ⟨v2,rfl,hv2,hr2⟩;have HR2:=Lib.hid hr2;clear hr2)
    clear hv2
    go_upto_region 4 with (first|(go_at_call 19; refine (HW2.out _ _ _ HR2.out).mono ?_;rintro e w3 ⟨rfl,hr3⟩;have HR3:=Lib.hid hr3;clear hr3)|((with_reducible refine aS 14 ?_);refine wpList_build (by rfl) 30 _ rfl #[(0, .int .i64 fV)] rfl _ (HBV.out _) ?_)|((with_reducible refine aS 6 ?_);refine aj rfl 30 rfl _ (HZ.out _) ?_;have HR4:=Lib.hid (HR3.out.fresh ((Below.refl _ w3).alloc (Nat.le_refl _) (.cells mz 30)));have HI4:Hid ((w3.alloc (.cells mz 30)).heap[w3.heap.size]? = some (.cells mz 30 (0,0))):=Lib.hid (aL w3 _);have mU:Hid (w.heap.size < w3.heap.size∧w3.heap.size≠p∧(C2.1≠[]→q≠w3.heap.size)):=Lib.hid ⟨aR HR3.out.i,(by have:=HR3.out.c.lt;omega),fun hz=>by have:=HR3.out.c.qlt hz;omega⟩;generalize w3.heap.size=g6 at HI4 mU ⊢; generalize w3.alloc (.cells mz 30)=w4 at HR4 HI4 ⊢)|((with_reducible refine aT 6 ?_);refine ah rfl 30 _ _ rfl (g6) _ _ 30 HI4.out rfl rfl wS.out HVI.out HVO.out ?_;intro w5 hb5 hk5 Rh;have EY:=Lib.hid (HMK.out _ _ _ _ HR4.out HI4.out mU.out.1 mU.out.2.1 mU.out.2.2 _ hk5 hb5);clear hb5 hk5 Rh))
    (try simp only [World.size_alloc,Act.put,sA,sZ,sS])
    clear HR1 HR2 HR3 HR4 HI4 mU
    have hfr:∀ u:World,mQ w u C2.1 g6 (aZ fV 0 z32 (.slice none 0 0) 0 z32 z64 z64) C3 p q→u.cell? ⟨g6,1,none⟩=some (.int .i64 0)∧u.frozen? ⟨g6,1,none⟩=false:=fun u h=>⟨by rw [aG h.m];exact lW,aC h.m 1⟩
    have qc:=Lib.hid hfr
    clear hfr
    go_upto_region 5 with (go_at_call 19; refine (HW3.out _ _ _ EY.out).mono ?_;rintro e w6 ⟨rfl,hr⟩;have Mx:=Lib.hid hr;obtain ⟨Aa,sH⟩:=qc.out _ hr;clear hr)
    obtain ⟨w7,hw⟩:∃ x,x=w6.setCell ⟨g6,1,none⟩ (.int .i64 fB):=⟨_,rfl⟩
    rw [← hw]
    have BL:=Lib.hid (Mx.out.set 1 (.int .i64 fB))
    rw [qo,← hw] at BL
    clear hw Aa sH qc EY Mx
    go_upto_region 6 with (first|(go_at_call 20; refine (HW4.out _ _ _ BL.out).mono ?_;rintro e w8 ⟨rfl,hr⟩;have vP:=Lib.hid hr;clear hr)|((with_reducible refine aT 20 ?_);refine bq rfl 23 _ _ rfl g6 2 _ (arr .u8 fR) 30 vP.out.m rfl rfl Pw.out (Sl.bE xJ.out) (av _ _) ?_;intro w9 hb hk hz;rw [EZ.out] at hb;have EX:=Lib.hid (vP.out.put hk hb);clear hb hk hz))
    clear BL vP
    have hfr:∀ u:World,mQ w u C2.1 g6 (aZ fV fB fR (.slice none 0 0) 0 z32 z64 z64) C5 p q→u.cell? ⟨g6,34,none⟩=some (.slice none 0 0)∧u.frozen? ⟨g6,34,none⟩=false:=fun u h=>⟨by rw [aG h.m];exact gI xJ.out,aC h.m 34⟩
    have qc:=Lib.hid hfr
    clear hfr
    go_upto_region 7 with (go_at_call 18; refine (HW5.out _ _ _ EX.out).mono ?_;rintro e TH ⟨s10,c10,rfl,ho,hr⟩;have pW:=Lib.hid hr;have pX:=Lib.hid ho;obtain ⟨Aa,sH⟩:=qc.out _ hr;clear hr ho)
    obtain ⟨w11,hw⟩:∃ x,x=TH.setCell ⟨g6,34,none⟩ (.slice s10 nW c10):=⟨_,rfl⟩
    rw [← hw]
    have rO:=Lib.hid (pW.out.set 34 (.slice s10 nW c10))
    rw [kY xJ.out,← hw] at rO
    have rX:Hid (aV w11 (max p g6+1) (.slice s10 nW c10) fW):=Lib.hid (by rw [hw];exact (pX.out).kept (T:=fun x=>x=g6) ((Kept.refl _ _).at _ _) (fun k e he=>by have:=pX.out.lt k e;omega))
    clear hw Aa sH qc EX pW pX
    have hfr:∀ u:World,mQ w u C2.1 g6 (aZ fV fB fR (.slice s10 nW c10) 0 z32 z64 z64) C6 p q→u.cell? ⟨g6,35,none⟩=some (.int .i64 0)∧u.frozen? ⟨g6,35,none⟩=false:=fun u h=>⟨by rw [aG h.m];exact nH xJ.out,aC h.m 35⟩
    have qc:=Lib.hid hfr
    clear hfr
    go_upto_region 8 with (go_at_call 19; refine (SN.out _ _ _ rO.out).mono ?_;rintro e w12 ⟨rfl,hr,hk⟩;have Am:=Lib.hid hr;have rW:=Lib.hid (rX.out.kept hk (fun k e he=>by have:=rX.out.lt k e;omega));obtain ⟨Aa,sH⟩:=qc.out _ hr;clear hr hk)
    obtain ⟨w13,hw⟩:∃ x,x=w12.setCell ⟨g6,35,none⟩ (.int .i64 fI):=⟨_,rfl⟩
    rw [← hw]
    have rM:=Lib.hid (Am.out.set 35 (.int .i64 fI))
    rw [nG xJ.out,← hw] at rM
    have rV:Hid (aV w13 (max p g6+1) (.slice s10 nW c10) fW):=Lib.hid (by rw [hw];exact (rW.out).kept (T:=fun x=>x=g6) ((Kept.refl _ _).at _ _) (fun k e he=>by have:=rW.out.lt k e;omega))
    clear hw Aa sH qc rO Am rX rW
    have xH:=Lib.hid (xH.out (.slice s10 nW c10))
    have xG:=Lib.hid (xG.out (.slice s10 nW c10))
    have nZ:=Lib.hid (nZ.out (.slice s10 nW c10))
    have jX:=Lib.hid (jX.out (.slice s10 nW c10))
    have jW:=Lib.hid (jW.out (.slice s10 nW c10))
    have iT:=Lib.hid (iT.out (.slice s10 nW c10))
    go_upto_region 9 with (first|(go_at_call 20; refine (HW7.out _ _ _ rM.out).mono ?_;rintro e w14 ⟨rfl,hr,hk⟩;have rJ:=Lib.hid hr;have rU:=Lib.hid (rV.out.kept hk (fun k e he=>by have:=rV.out.lt k e;omega));clear hr hk)|((with_reducible refine aT 31 ?_);refine bq rfl 23 _ _ rfl g6 36 _ (arr .u8 fK) 30 rJ.out.m rfl rfl jX.out (Sl.bE HLK.out) (av _ _) ?_;intro w15 hb hk hz;rw [xH.out] at hb;have Al:=Lib.hid (rJ.out.put hk hb);have rT:=Lib.hid (rU.out.kept hk (fun k e he=>by have:=rU.out.lt k e;omega));clear hb hk hz))
    clear rM rJ rV rU
    go_upto_region 10 with (first|(go_at_call 21; refine (HW8.out _ _ _ Al.out).mono ?_;rintro e w16 ⟨rfl,hr,hk⟩;have rH:=Lib.hid hr;have rR:=Lib.hid (rT.out.kept hk (fun k e he=>by have:=rT.out.lt k e;omega));clear hr hk)|((with_reducible refine aT 35 ?_);refine bq rfl 26 _ _ rfl g6 68 _ (arr .u8 fG) 30 rH.out.m rfl rfl jW.out (Sl.kS HLG.out) (av _ _) ?_;intro w17 hb hk hz;rw [xG.out] at hb;have Ak:=Lib.hid (rH.out.put hk hb);have rQ:=Lib.hid (rR.out.kept hk (fun k e he=>by have:=rR.out.lt k e;omega));clear hb hk hz))
    clear Al rH rT rR
    go_upto_region 11 with (first|(go_at_call 21; refine (SK.out _ _ _ Ak.out).mono ?_;rintro e w18 ⟨rfl,hr,hk⟩;have rG:=Lib.hid hr;have rP:=Lib.hid (rQ.out.kept hk (fun k e he=>by have:=rQ.out.lt k e;omega));clear hr hk)|((with_reducible refine aT 38 ?_);refine bq rfl 26 _ _ rfl g6 132 _ (arr .u8 fS) 30 rG.out.m rfl rfl iT.out (Sl.kS HLS.out) (av _ _) ?_;intro w19 hb hk hz;rw [nZ.out] at hb;have jY:=Lib.hid (rG.out.put hk hb);have ME:=Lib.hid (rP.out.kept hk (fun k e he=>by have:=rP.out.lt k e;omega));clear hb hk hz))
    clear Ak rG rQ rP
    have F6:Hid ((Tryd.prog.info? 30).map (·.size)=some (aZ fV fB fR (.slice s10 nW c10) fI fK fG fS).size):=Lib.hid (by rw [bL xJ.out HLK.out HLG.out HLS.out];exact dH)
    have Ao:=Lib.hid (HMY.out s10 c10)
    obtain ⟨FM,Lr⟩:∃ M,M=aZ fV fB fR (.slice s10 nW c10) fI fK fG fS:=⟨_,rfl⟩
    have HFE:=Lib.hid Lr
    rw [← Lr] at jY F6 Ao
    clear Lr
    go_wp2_with (first|((with_reducible show Calls _ 22 _ _ _);go_at_call 22; refine (Sn.out _ _ _ jY.out).mono ?_;rintro e w20 ⟨rfl,rfl⟩)|((with_reducible refine aS 47 ?_);refine eG (by rfl) 30 _ rfl g6 rfl 30 _ (0,0) _ jY.out.m Tryd.underlying30 rfl F6.out ?_)|((with_reducible show Calls _ 23 _ _ _);go_at_call 23; refine (Ao.out _).mono ?_;rintro e w21 ⟨rfl,hb⟩;have xE:=Lib.hid (jY.out.fresh hb);have aaB:=Lib.hid (ME.out.below hb);clear hb)|((with_reducible refine aS 52 ?_);refine wpList_load_row rfl 30 _ rfl g6 rfl 30 _ (0,0) _ xE.out.m Tryd.underlying30 rfl F6.out ?_)|((with_reducible refine aT 2 ?_);refine ah rfl 30 _ _ rfl (w.heap.size) _ _ 30 (by have h:=xE.out.i;rw [HZC.out] at h;exact h) rfl rfl (by rw [HFE.out,bL xJ.out HLK.out HLG.out HLS.out,HZM.out]) F6.out (by rw [HFE.out];exact iO rfl) ?_;intro w22 tX tV Es;have Nt:=Lib.hid tX;have kJ:=Lib.hid tV;clear tX tV Es))
    all_goals (try simp only [Exit.then])
    refine bodyPost_ret (aP rfl _ _ (w.heap.size) 30 _ (0,0) _ _ rfl Nt.out Tryd.underlying30 rfl F6.out rfl) rfl ?_
    exact ⟨_,_,rfl, .inl ⟨rfl,rfl,s10,c10,HFE.out,(aaB.out.kept kJ.out (fun k e he=>by have:=aaB.out.lt k e;have:=xE.out.n3;omega)).mono (by have:=xE.out.n3;omega)⟩,xE.out.b.trans ⟨kJ.out.os,kJ.out.tape,kJ.out.output,kJ.out.size,fun i hi=>kJ.out.block i (Nat.lt_of_lt_of_le hi xE.out.b.size) (by omega)⟩⟩
  ·rw [decide_eq_false hH] at hq ⊢
   clear hH
   have HMY:=Lib.hid tQ
   clear tQ
   simp only [Bool.and_false,Bool.false_and,Bool.false_eq_true,false_and,false_or,true_and]
   go_enter Tryd.func7, Tryd.ntmps7
   go_upto_region 1 with ((with_reducible refine aS 2 ?_);refine aj rfl 30 rfl _ (HZ.out _) ?_)
   generalize w.alloc (.cells mz 30)=wb at F7 HI0 HS ⊢
   go_upto_region 2 with (go_at_call 17; refine (HCN.out _ HS.out).mono ?_;rintro e w1 ⟨p,q,rfl,hc1,hp1,hq1,hb1⟩;have HR1:Hid (NS w w1 w.heap.size mz 30 xs false p q):=Lib.hid ⟨Below.blk hb1 HI0.out (aR HI0.out),hc1,(by have:=aR HI0.out;omega),(by have:=aR HI0.out;omega),F7.out.trans (hb1.mono F7.out.size)⟩;clear hc1 hp1 hq1 hb1)
   go_upto_region 3 with (go_at_call 18; refine (HW1.out _ _ _ HR1.out).mono ?_;rintro e w2 ⟨v2,rfl,hv2,hr2⟩;have HR2:=Lib.hid hr2;clear hr2)
   clear hv2
   go_upto_region 4 with (first|(go_at_call 19; refine (HW2.out _ _ _ HR2.out).mono ?_;rintro e w3 ⟨rfl,hr3⟩;have HR3:=Lib.hid hr3;clear hr3)|((with_reducible refine aS 14 ?_);refine wpList_build (by rfl) 30 _ rfl #[(0, .int .i64 fV)] rfl _ (HBV.out _) ?_)|((with_reducible refine aS 6 ?_);refine aj rfl 30 rfl _ (HZ.out _) ?_;have HR4:=Lib.hid (HR3.out.fresh ((Below.refl _ w3).alloc (Nat.le_refl _) (.cells mz 30)));have HI4:Hid ((w3.alloc (.cells mz 30)).heap[w3.heap.size]? = some (.cells mz 30 (0,0))):=Lib.hid (aL w3 _);have mU:Hid (w.heap.size < w3.heap.size∧w3.heap.size≠p∧(C2.1≠[]→q≠w3.heap.size)):=Lib.hid ⟨aR HR3.out.i,(by have:=HR3.out.c.lt;omega),fun hz=>by have:=HR3.out.c.qlt hz;omega⟩;generalize w3.heap.size=g6 at HI4 mU ⊢; generalize w3.alloc (.cells mz 30)=w4 at HR4 HI4 ⊢)|((with_reducible refine aT 6 ?_);refine ah rfl 30 _ _ rfl (g6) _ _ 30 HI4.out rfl rfl wS.out HVI.out HVO.out ?_;intro w5 hb5 hk5 Rh;have EY:=Lib.hid (HMK.out _ _ _ _ HR4.out HI4.out mU.out.1 mU.out.2.1 mU.out.2.2 _ hk5 hb5);clear hb5 hk5 Rh))
   (try simp only [World.size_alloc,Act.put,sA,sZ,sS])
   clear HR1 HR2 HR3 HR4 HI4 mU
   have hfr:∀ u:World,mQ w u C2.1 g6 (aZ fV 0 z32 (.slice none 0 0) 0 z32 z64 z64) C3 p q→u.cell? ⟨g6,1,none⟩=some (.int .i64 0)∧u.frozen? ⟨g6,1,none⟩=false:=fun u h=>⟨by rw [aG h.m];exact lW,aC h.m 1⟩
   have qc:=Lib.hid hfr
   clear hfr
   go_upto_region 5 with (go_at_call 19; refine (HW3.out _ _ _ EY.out).mono ?_;rintro e w6 ⟨rfl,hr⟩;have Mx:=Lib.hid hr;obtain ⟨Aa,sH⟩:=qc.out _ hr;clear hr)
   obtain ⟨w7,hw⟩:∃ x,x=w6.setCell ⟨g6,1,none⟩ (.int .i64 fB):=⟨_,rfl⟩
   rw [← hw]
   have BL:=Lib.hid (Mx.out.set 1 (.int .i64 fB))
   rw [qo,← hw] at BL
   clear hw Aa sH qc EY Mx
   go_upto_region 6 with (first|(go_at_call 20; refine (HW4.out _ _ _ BL.out).mono ?_;rintro e w8 ⟨rfl,hr⟩;have vP:=Lib.hid hr;clear hr)|((with_reducible refine aT 20 ?_);refine bq rfl 23 _ _ rfl g6 2 _ (arr .u8 fR) 30 vP.out.m rfl rfl Pw.out (Sl.bE xJ.out) (av _ _) ?_;intro w9 hb hk hz;rw [EZ.out] at hb;have EX:=Lib.hid (vP.out.put hk hb);clear hb hk hz))
   clear BL vP
   have hfr:∀ u:World,mQ w u C2.1 g6 (aZ fV fB fR (.slice none 0 0) 0 z32 z64 z64) C5 p q→u.cell? ⟨g6,34,none⟩=some (.slice none 0 0)∧u.frozen? ⟨g6,34,none⟩=false:=fun u h=>⟨by rw [aG h.m];exact gI xJ.out,aC h.m 34⟩
   have qc:=Lib.hid hfr
   clear hfr
   go_upto_region 7 with (go_at_call 18; refine (HW5.out _ _ _ EX.out).mono ?_;rintro e TH ⟨s10,c10,rfl,ho,hr⟩;have pW:=Lib.hid hr;have pX:=Lib.hid ho;obtain ⟨Aa,sH⟩:=qc.out _ hr;clear hr ho)
   obtain ⟨w11,hw⟩:∃ x,x=TH.setCell ⟨g6,34,none⟩ (.slice s10 nW c10):=⟨_,rfl⟩
   rw [← hw]
   have rO:=Lib.hid (pW.out.set 34 (.slice s10 nW c10))
   rw [kY xJ.out,← hw] at rO
   have rX:Hid (aV w11 (max p g6+1) (.slice s10 nW c10) fW):=Lib.hid (by rw [hw];exact (pX.out).kept (T:=fun x=>x=g6) ((Kept.refl _ _).at _ _) (fun k e he=>by have:=pX.out.lt k e;omega))
   clear hw Aa sH qc EX pW pX
   have hfr:∀ u:World,mQ w u C2.1 g6 (aZ fV fB fR (.slice s10 nW c10) 0 z32 z64 z64) C6 p q→u.cell? ⟨g6,35,none⟩=some (.int .i64 0)∧u.frozen? ⟨g6,35,none⟩=false:=fun u h=>⟨by rw [aG h.m];exact nH xJ.out,aC h.m 35⟩
   have qc:=Lib.hid hfr
   clear hfr
   go_upto_region 8 with (go_at_call 19; refine (SN.out _ _ _ rO.out).mono ?_;rintro e w12 ⟨rfl,hr,hk⟩;have Am:=Lib.hid hr;have rW:=Lib.hid (rX.out.kept hk (fun k e he=>by have:=rX.out.lt k e;omega));obtain ⟨Aa,sH⟩:=qc.out _ hr;clear hr hk)
   obtain ⟨w13,hw⟩:∃ x,x=w12.setCell ⟨g6,35,none⟩ (.int .i64 fI):=⟨_,rfl⟩
   rw [← hw]
   have rM:=Lib.hid (Am.out.set 35 (.int .i64 fI))
   rw [nG xJ.out,← hw] at rM
   have rV:Hid (aV w13 (max p g6+1) (.slice s10 nW c10) fW):=Lib.hid (by rw [hw];exact (rW.out).kept (T:=fun x=>x=g6) ((Kept.refl _ _).at _ _) (fun k e he=>by have:=rW.out.lt k e;omega))
   clear hw Aa sH qc rO Am rX rW
   have xH:=Lib.hid (xH.out (.slice s10 nW c10))
   have xG:=Lib.hid (xG.out (.slice s10 nW c10))
   have nZ:=Lib.hid (nZ.out (.slice s10 nW c10))
   have jX:=Lib.hid (jX.out (.slice s10 nW c10))
   have jW:=Lib.hid (jW.out (.slice s10 nW c10))
   have iT:=Lib.hid (iT.out (.slice s10 nW c10))
   go_upto_region 9 with (first|(go_at_call 20; refine (HW7.out _ _ _ rM.out).mono ?_;rintro e w14 ⟨rfl,hr,hk⟩;have rJ:=Lib.hid hr;have rU:=Lib.hid (rV.out.kept hk (fun k e he=>by have:=rV.out.lt k e;omega));clear hr hk)|((with_reducible refine aT 31 ?_);refine bq rfl 23 _ _ rfl g6 36 _ (arr .u8 fK) 30 rJ.out.m rfl rfl jX.out (Sl.bE HLK.out) (av _ _) ?_;intro w15 hb hk hz;rw [xH.out] at hb;have Al:=Lib.hid (rJ.out.put hk hb);have rT:=Lib.hid (rU.out.kept hk (fun k e he=>by have:=rU.out.lt k e;omega));clear hb hk hz))
   clear rM rJ rV rU
   go_upto_region 10 with (first|(go_at_call 21; refine (HW8.out _ _ _ Al.out).mono ?_;rintro e w16 ⟨rfl,hr,hk⟩;have rH:=Lib.hid hr;have rR:=Lib.hid (rT.out.kept hk (fun k e he=>by have:=rT.out.lt k e;omega));clear hr hk)|((with_reducible refine aT 35 ?_);refine bq rfl 26 _ _ rfl g6 68 _ (arr .u8 fG) 30 rH.out.m rfl rfl jW.out (Sl.kS HLG.out) (av _ _) ?_;intro w17 hb hk hz;rw [xG.out] at hb;have Ak:=Lib.hid (rH.out.put hk hb);have rQ:=Lib.hid (rR.out.kept hk (fun k e he=>by have:=rR.out.lt k e;omega));clear hb hk hz))
   clear Al rH rT rR
   go_upto_region 11 with (first|(go_at_call 21; refine (SK.out _ _ _ Ak.out).mono ?_;rintro e w18 ⟨rfl,hr,hk⟩;have rG:=Lib.hid hr;have rP:=Lib.hid (rQ.out.kept hk (fun k e he=>by have:=rQ.out.lt k e;omega));clear hr hk)|((with_reducible refine aT 38 ?_);refine bq rfl 26 _ _ rfl g6 132 _ (arr .u8 fS) 30 rG.out.m rfl rfl iT.out (Sl.kS HLS.out) (av _ _) ?_;intro w19 hb hk hz;rw [nZ.out] at hb;have jY:=Lib.hid (rG.out.put hk hb);have ME:=Lib.hid (rP.out.kept hk (fun k e he=>by have:=rP.out.lt k e;omega));clear hb hk hz))
   clear Ak rG rQ rP
   have F6:Hid ((Tryd.prog.info? 30).map (·.size)=some (aZ fV fB fR (.slice s10 nW c10) fI fK fG fS).size):=Lib.hid (by rw [bL xJ.out HLK.out HLG.out HLS.out];exact dH)
   have Ao:=Lib.hid (HMY.out s10 c10)
   obtain ⟨FM,Lr⟩:∃ M,M=aZ fV fB fR (.slice s10 nW c10) fI fK fG fS:=⟨_,rfl⟩
   have HFE:=Lib.hid Lr
   rw [← Lr] at jY F6 Ao
   clear Lr
   go_wp2_with (first|((with_reducible show Calls _ 22 _ _ _);go_at_call 22; refine (Sn.out _ _ _ jY.out).mono ?_;rintro e w20 ⟨rfl,rfl⟩)|((with_reducible refine aS 47 ?_);refine eG (by rfl) 30 _ rfl g6 rfl 30 _ (0,0) _ jY.out.m Tryd.underlying30 rfl F6.out ?_)|((with_reducible show Calls _ 23 _ _ _);go_at_call 23; refine (Ao.out _).mono ?_;rintro e w21 ⟨rfl,hb⟩;have xE:=Lib.hid (jY.out.fresh hb);have aaB:=Lib.hid (ME.out.below hb);clear hb)|((with_reducible refine aS 51 ?_);refine wpList_build (by rfl) 30 _ rfl #[] rfl _ (HZ0.out _) ?_)|((with_reducible refine aT 2 ?_);refine ah rfl 30 _ _ rfl (w.heap.size) _ _ 30 (by have h:=jY.out.i;rw [HZC.out] at h;exact h) rfl rfl rfl Pn.out HZO.out ?_;intro w22 tX tV Es;have Nt:=Lib.hid tX;have kJ:=Lib.hid tV;clear tX tV Es))
   all_goals (try simp only [Exit.then])
   refine bodyPost_ret (aP rfl _ _ (w.heap.size) 30 _ (0,0) _ _ rfl Nt.out Tryd.underlying30 rfl Pn.out rfl) rfl ?_
   exact ⟨_,_,rfl,⟨rfl,rfl⟩,jY.out.b.trans ⟨kJ.out.os,kJ.out.tape,kJ.out.output,kJ.out.size,fun i hi=>kJ.out.block i (Nat.lt_of_lt_of_le hi jY.out.b.size) (by omega)⟩⟩
end Go.Proofs.YthdgbgleklkaiaaDoor.Mf
