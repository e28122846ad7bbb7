/- manifest.Read. Condition: as each theorem says. -/

import Derived.Test.YthdgbgleklkaiaaDoorQb32
open Go.Lib renaming hid→acD
open Nat renaming le_trans→acE,le_refl→acF,lt_of_lt_of_le→acG
set_option linter.unusedSimpArgs false
set_option linter.unusedVariables false
set_option maxRecDepth 100000
set_option maxHeartbeats 16000000
namespace Go.Proofs.YthdgbgleklkaiaaDoor.Mf
open Go.RowKit Lm Fp Cu Sl Sc Ce
theorem uj (sa:Option Addr) (n c:Nat) (xs:List Int) (w:World) (hs:Src w sa n xs) (hx:bytes xs) (hn:n≤1099511627776) :
  Calls Tryd.prog 7 #[.slice sa n c] w fun e w'=>∃ M E,e = .returned (.tuple #[.agg M, .int .i64 E])∧((Uv xs=true∧E=0∧∃ sw cw,M=aZ (fv xs) (fb xs) (JU xs) (.slice sw (fws xs).length cw) (fi xs) (Jb xs) (Jc xs) (I6 xs)∧aU w' w.heap.size (.slice sw (fws xs).length cw) (fws xs))∨(Uv xs=false∧E=4∧M=iI))∧Below w.heap.size w w':=by
 have hxl:xs.length≤1099511627776:=by rw [hs.len];exact hn
 have hml:=mc_len xs
 have hcn:=fun (u:World) (h:Src u sa n xs)=>abG sa n c xs u h hn
 have hw1:∀ u p q,OO w u w.heap.size iI 30 xs false p q→Calls Tryd.prog 18 #[.pointer (some ⟨p,0,none⟩), .int .i64 4] u fun e w'=>∃ v,e = .returned v∧(convert 24 9 v).run Tryd.prog w' = .ok (.string (strOfNums (fH xs))) w'∧OO w w' w.heap.size iI 30 (Ir xs).1 (Ir xs).2 p q:=by
  intro u p q hu
  refine (qw p q xs false 4 u hu.c hxl).mono ?_
  rintro e w' ⟨v,rfl,ho,hc,hk⟩
  exact ⟨v,rfl,ho.str,hu.turn hk hc⟩
 have hw2:∀ u p q,OO w u w.heap.size iI 30 (Ir xs).1 (Ir xs).2 p q→Calls Tryd.prog 19 #[.pointer (some ⟨p,0,none⟩)] u fun e w'=>e = .returned (.int .i64 (fv xs))∧OO w w' w.heap.size iI 30 (oQ xs).1 (oQ xs).2 p q:=by
  intro u p q hu
  refine (AX p q (Ir xs).1 (Ir xs).2 u hu.c (acE hml.1 hxl)).mono ?_
  rintro e w' ⟨rfl,hc,hk⟩
  exact ⟨rfl,hu.turn hk hc⟩
 have hmk:∀ u p q g,OO w u w.heap.size iI 30 (oQ xs).1 (oQ xs).2 p q→u.heap[g]? = some (.cells iI 30 (0,0))→w.heap.size < g→g≠p→((oQ xs).1≠[]→q≠g)→∀ u',Kept (fun x=>x=g) u u'→u'.heap[g]? = some (.cells (aZ (fv xs) 0 z32 (.slice none 0 0) 0 z32 z64 z64) 30 (0,0))→ny w u' (oQ xs).1 g (aZ (fv xs) 0 z32 (.slice none 0 0) 0 z32 z64 z64) (oQ xs) p q :=
  fun u p q g hu hg h1 h2 h3 u' k hm=>ny.put (M:=iI) ⟨hu.i,hg,hu.c,hu.p1,h2,h1,hu.p2,h3,id,hu.b⟩ k hm
 have hw3:∀ ⦃g:Nat⦄ ⦃M:Array Value⦄ (u:World) (p q:Nat),ny w u (oQ xs).1 g M (oQ xs) p q→Calls Tryd.prog 19 #[.pointer (some ⟨p,0,none⟩)] u fun e w'=>e = .returned (.int .i64 (fb xs))∧ny w w' (oQ xs).1 g M (JQ xs) p q:=by
  intro g M u p q hu
  refine (AX p q (oQ xs).1 (oQ xs).2 u hu.cu (acE hml.2.1 hxl)).mono ?_
  rintro e w' ⟨rfl,hc,hk⟩
  exact ⟨rfl,hu.turn hk hc⟩
 have hw4:∀ ⦃g:Nat⦄ ⦃M:Array Value⦄ (u:World) (p q:Nat),ny w u (oQ xs).1 g M (JQ xs) p q→Calls Tryd.prog 20 #[.pointer (some ⟨p,0,none⟩)] u fun e w'=>e = .returned (.agg (arr .u8 (JU xs)))∧ny w w' (oQ xs).1 g M (JO xs) p q:=by
  intro g M u p q hu
  refine (PU p q (JQ xs).1 (JQ xs).2 u hu.cu (acE hml.2.2.1 hxl)).mono ?_
  rintro e w' ⟨rfl,hc,hk⟩
  exact ⟨rfl,hu.turn hk hc⟩
 have hw5:∀ ⦃g:Nat⦄ ⦃M:Array Value⦄ (u:World) (p q:Nat),ny w u (oQ xs).1 g M (JO xs) p q→Calls Tryd.prog 18 #[.pointer (some ⟨p,0,none⟩), .int .i64 80] u fun e w'=>∃ s c,e = .returned (.slice s (fws xs).length c)∧aU w' (max p g+1) (.slice s (fws xs).length c) (fws xs)∧ny w w' (oQ xs).1 g M (JN xs) p q:=by
  intro g M u p q hu
  refine (qw p q (JO xs).1 (JO xs).2 80 u hu.cu (acE hml.2.2.2.1 hxl)).mono ?_
  rintro e w' ⟨v,rfl,ho,hc,hk⟩
  obtain ⟨s,c,rfl, -⟩:=ho.form
  exact ⟨s,c,rfl,ho.mono (by have:=aO hu.m;have:=hu.cu.lt;omega),hu.turn hk hc⟩
 have hw6:∀ ⦃g:Nat⦄ ⦃M:Array Value⦄ (u:World) (p q:Nat),ny w u (oQ xs).1 g M (JN xs) p q→Calls Tryd.prog 19 #[.pointer (some ⟨p,0,none⟩)] u fun e w'=>e = .returned (.int .i64 (fi xs))∧ny w w' (oQ xs).1 g M (JM xs) p q∧Kept (· = p) u w':=by
  intro g M u p q hu
  refine (AX p q (JN xs).1 (JN xs).2 u hu.cu (acE hml.2.2.2.2.1 hxl)).mono ?_
  rintro e w' ⟨rfl,hc,hk⟩
  exact ⟨rfl,hu.turn hk hc,hk⟩
 have hw7:∀ ⦃g:Nat⦄ ⦃M:Array Value⦄ (u:World) (p q:Nat),ny w u (oQ xs).1 g M (JM xs) p q→Calls Tryd.prog 20 #[.pointer (some ⟨p,0,none⟩)] u fun e w'=>e = .returned (.agg (arr .u8 (Jb xs)))∧ny w w' (oQ xs).1 g M (JL xs) p q∧Kept (· = p) u w':=by
  intro g M u p q hu
  refine (PU p q (JM xs).1 (JM xs).2 u hu.cu (acE hml.2.2.2.2.2.1 hxl)).mono ?_
  rintro e w' ⟨rfl,hc,hk⟩
  exact ⟨rfl,hu.turn hk hc,hk⟩
 have hw8:∀ ⦃g:Nat⦄ ⦃M:Array Value⦄ (u:World) (p q:Nat),ny w u (oQ xs).1 g M (JL xs) p q→Calls Tryd.prog 21 #[.pointer (some ⟨p,0,none⟩)] u fun e w'=>e = .returned (.agg (arr .u8 (Jc xs)))∧ny w w' (oQ xs).1 g M (KN xs) p q∧Kept (· = p) u w':=by
  intro g M u p q hu
  refine (O8 p q (JL xs).1 (JL xs).2 u hu.cu (acE hml.2.2.2.2.2.2.1 hxl)).mono ?_
  rintro e w' ⟨rfl,hc,hk⟩
  exact ⟨rfl,hu.turn hk hc,hk⟩
 have hw9:∀ ⦃g:Nat⦄ ⦃M:Array Value⦄ (u:World) (p q:Nat),ny w u (oQ xs).1 g M (KN xs) p q→Calls Tryd.prog 21 #[.pointer (some ⟨p,0,none⟩)] u fun e w'=>e = .returned (.agg (arr .u8 (I6 xs)))∧ny w w' (oQ xs).1 g M (mc9 xs) p q∧Kept (· = p) u w':=by
  intro g M u p q hu
  refine (O8 p q (KN xs).1 (KN xs).2 u hu.cu (acE hml.2.2.2.2.2.2.2 hxl)).mono ?_
  rintro e w' ⟨rfl,hc,hk⟩
  exact ⟨rfl,hu.turn hk hc,hk⟩
 have Xt:∀ ⦃g:Nat⦄ ⦃M:Array Value⦄ (u:World) (p q:Nat),ny w u (oQ xs).1 g M (mc9 xs) p q→Calls Tryd.prog 22 #[.pointer (some ⟨p,0,none⟩)] u fun e w'=>e = .returned (.bool (fE xs))∧u=w':=fun _ _ u p q hu=>abK p q _ _ u hu.cu
 have hq:((strOfNums (fH xs)).toList == [80,67,77,49])=decide (fH xs=[80,67,77,49]):=by
  have h1:=Sm.str_eq (fH xs) [80,67,77,49] (R5 hx _ _).1 (by unfold bytes;decide)
  rwa [str_cm,cm_list] at h1
 have hlr:(JU xs).length=32:=mR _ _ _
 have hlk:(Jb xs).length=32:=mR _ _ _
 have hlg:(Jc xs).length=64:=mR _ _ _
 have hls:(I6 xs).length=64:=mR _ _ _
 have nX:=fun (s:Option Addr) (c:Nat) (u:World)=>nT (ks:=Jb xs) (gs:=Jc xs) (ss:=I6 xs) (fv xs) (fb xs) (fi xs) s (fws xs).length c u hlr
 have hs0:=hs.below ((Below.refl _ w).alloc (acF _) (.cells iI 30))
 unfold Uv
 generalize Ir xs=C1 at hw1 hw2
 generalize oQ xs=C2 at hw2 hw3 hw4 hw5 hw6 hw7 hw8 hw9 Xt hmk
 generalize JQ xs=C3 at hw3 hw4
 generalize JO xs=C4 at hw4 hw5
 generalize JN xs=C5 at hw5 hw6
 generalize JM xs=C6 at hw6 hw7
 generalize JL xs=C7 at hw7 hw8
 generalize KN xs=C8 at hw8 hw9
 generalize mc9 xs=C9 at hw9 Xt
 generalize fv xs=fV at hw2 hmk nX ⊢
 generalize fb xs=fB at hw3 nX ⊢
 generalize JU xs=fR at hw4 nX hlr ⊢
 generalize fws xs=fW at hw5 nX ⊢
 generalize fi xs=fI at hw6 nX ⊢
 generalize Jb xs=fK at hw7 nX hlk ⊢
 generalize Jc xs=fG at hw8 nX hlg ⊢
 generalize I6 xs=fS at hw9 nX hls ⊢
 generalize fE xs=fE_ at Xt ⊢
 generalize fH xs=fH_ at hw1 hq ⊢
 generalize fW.length=nW at hw5 nX ⊢
 obtain ⟨SH,hSH⟩:∃ x,x=strOfNums fH_:=⟨_,rfl⟩
 rw [← hSH] at hw1 hq
 obtain ⟨mz,hmz⟩:∃ m,m=iI:=⟨_,rfl⟩
 have HZC:Hid (iI=mz):=acD hmz.symm
 have HZM:Hid (mz.size=196):=acD (by rw [hmz];exact bK rfl rfl rfl rfl)
 have HZO:Hid (mz.all (·.oneCell')=true):=acD (by rw [hmz];exact jo rfl)
 have HZI:Hid ((Tryd.prog.info? 30).map (·.size)=some mz.size):=acD (by rw [HZM.out];exact eD)
 have HZ:Hid (∀ w,(zeroValue 30).run Tryd.prog w = .ok (.agg mz) w):=acD (by rw [hmz];exact mI)
 have HZ0:Hid (∀ w,(Instr.build 30 #[]).run Tryd.prog w = .ok (.agg mz) w):=acD (by rw [hmz];exact Ba)
 have HBV:=acD (Ng fV)
 have oW:Hid (Below w.heap.size w (w.alloc (.cells mz 30))):=acD ((Below.refl _ w).alloc (acF _) _)
 have HI0:Hid ((w.alloc (.cells mz 30)).heap[w.heap.size]? = some (.cells mz 30 (0,0))):=acD (aG w _)
 rw [← hmz] at hw1 hw2 hmk hs0 ⊢
 have hv0:(aZ fV 0 z32 (.slice none 0 0) 0 z32 z64 z64).size=196:=bK rfl rfl rfl rfl
 have xI:Hid ((aZ fV 0 z32 (.slice none 0 0) 0 z32 z64 z64).size=mz.size):=acD (by rw [hv0,HZM.out])
 have HVI:Hid ((Tryd.prog.info? 30).map (·.size)=some (aZ fV 0 z32 (.slice none 0 0) 0 z32 z64 z64).size):=acD (by rw [hv0];exact eD)
 have HVO:Hid ((aZ fV 0 z32 (.slice none 0 0) 0 z32 z64 z64).all (·.oneCell')=true):=acD (jo rfl)
 have yj:Hid (((aZ fV fB z32 (.slice none 0 0) 0 z32 z64 z64).toList.take 2 ++ (arr .u8 fR).toList ++ (aZ fV fB z32 (.slice none 0 0) 0 z32 z64 z64).toList.drop (2+(arr .u8 fR).size)).toArray=aZ fV fB fR (.slice none 0 0) 0 z32 z64 z64):=acD (Sz rfl hlr)
 have QH:Hid (2+(arr .u8 fR).size≤(aZ fV fB z32 (.slice none 0 0) 0 z32 z64 z64).size):=acD (by rw [aD,hlr,bK rfl rfl rfl rfl];omega)
 have yh:Hid (∀ wv,((aZ fV fB fR wv fI z32 z64 z64).toList.take 36 ++ (arr .u8 fK).toList ++ (aZ fV fB fR wv fI z32 z64 z64).toList.drop (36+(arr .u8 fK).size)).toArray=aZ fV fB fR wv fI fK z64 z64):=acD (fun wv=>KR hlr rfl hlk)
 have kE:Hid (∀ wv,36+(arr .u8 fK).size≤(aZ fV fB fR wv fI z32 z64 z64).size):=acD (fun wv=>by rw [aD,hlk,bK hlr rfl rfl rfl];omega)
 have yc:Hid (∀ wv,((aZ fV fB fR wv fI fK z64 z64).toList.take 68 ++ (arr .u8 fG).toList ++ (aZ fV fB fR wv fI fK z64 z64).toList.drop (68+(arr .u8 fG).size)).toArray=aZ fV fB fR wv fI fK fG z64):=acD (fun wv=>KQ hlr hlk rfl hlg)
 have kD:Hid (∀ wv,68+(arr .u8 fG).size≤(aZ fV fB fR wv fI fK z64 z64).size):=acD (fun wv=>by rw [aD,hlg,bK hlr hlk rfl rfl];omega)
 have oK:Hid (∀ wv,((aZ fV fB fR wv fI fK fG z64).toList.take 132 ++ (arr .u8 fS).toList ++ (aZ fV fB fR wv fI fK fG z64).toList.drop (132+(arr .u8 fS).size)).toArray=aZ fV fB fR wv fI fK fG fS):=acD (fun wv=>xA hlr hlk hlg rfl hls)
 have iX:Hid (∀ wv,132+(arr .u8 fS).size≤(aZ fV fB fR wv fI fK fG z64).size):=acD (fun wv=>by rw [aD,hls,bK hlr hlk hlg rfl];omega)
 have HCN:=acD hcn
 have HW1:=acD hw1
 have HW2:=acD hw2
 have HMK:=acD hmk
 have HW3:=acD hw3
 have HW4:=acD hw4
 have HW5:=acD hw5
 have Uy:=acD hw6
 have HW7:=acD hw7
 have HW8:=acD hw8
 have Ux:=acD hw9
 have Ug:=acD Xt
 have yu:=acD hlr
 have HLK:=acD hlk
 have HLG:=acD hlg
 have HLS:=acD hls
 have HS:=acD hs0
 clear hs hx hn hxl hml hcn hw1 hw2 hmk hw3 hw4 hw5 hw6 hw7 hw8 hw9 Xt hlr hlk hlg hls hs0 hmz hv0 hSH
 cases fE_ with
 | false =>
  have HMY:=acD nX
  clear nX
  simp only [Bool.false_and,Bool.false_eq_true,false_and,false_or,true_and]
  go_enter Tryd.func7, Tryd.ntmps7
  go_upto_region 1 with ((with_reducible refine aS 2 ?_);refine aj rfl 30 rfl _ (HZ.out _) ?_)
  generalize w.alloc (.cells mz 30)=wb at oW HI0 HS ⊢
  go_upto_region 2 with (go_at_call 17; refine (HCN.out _ HS.out).mono ?_;rintro e w1 ⟨p,q,rfl,hc1,hp1,hq1,hb1⟩;have HR1:Hid (OO w w1 w.heap.size mz 30 xs false p q):=acD ⟨Below.blk hb1 HI0.out (aO HI0.out),hc1,(by have:=aO HI0.out;omega),(by have:=aO HI0.out;omega),oW.out.trans (hb1.mono oW.out.size)⟩;clear hc1 hp1 hq1 hb1)
  go_upto_region 3 with (go_at_call 18; refine (HW1.out _ _ _ HR1.out).mono ?_;rintro e w2 ⟨v2,rfl,hv2,hr2⟩;have HR2:=acD hr2;clear hr2)
  clear hv2
  go_upto_region 4 with (first|(go_at_call 19; refine (HW2.out _ _ _ HR2.out).mono ?_;rintro e w3 ⟨rfl,hr3⟩;have HR3:=acD hr3;clear hr3)|((with_reducible refine aS 14 ?_);refine wpList_build (by rfl) 30 _ rfl #[(0, .int .i64 fV)] rfl _ (HBV.out _) ?_)|((with_reducible refine aS 6 ?_);refine aj rfl 30 rfl _ (HZ.out _) ?_;have HR4:=acD (HR3.out.fresh ((Below.refl _ w3).alloc (acF _) (.cells mz 30)));have HI4:Hid ((w3.alloc (.cells mz 30)).heap[w3.heap.size]? = some (.cells mz 30 (0,0))):=acD (aG w3 _);have lN:Hid (w.heap.size < w3.heap.size∧w3.heap.size≠p∧(C2.1≠[]→q≠w3.heap.size)):=acD ⟨aO HR3.out.i,(by have:=HR3.out.c.lt;omega),fun hz=>by have:=HR3.out.c.qlt hz;omega⟩;generalize w3.heap.size=g6 at HI4 lN ⊢; generalize w3.alloc (.cells mz 30)=w4 at HR4 HI4 ⊢)|((with_reducible refine aT 6 ?_);refine ah rfl 30 _ _ rfl (g6) _ _ 30 HI4.out rfl rfl xI.out HVI.out HVO.out ?_;intro w5 hb5 hk5 SK;have Bl:=acD (HMK.out _ _ _ _ HR4.out HI4.out lN.out.1 lN.out.2.1 lN.out.2.2 _ hk5 hb5);clear hb5 hk5 SK))
  (try simp only [World.size_alloc,Act.put,sA,sZ,sS])
  clear HR1 HR2 HR3 HR4 HI4 lN
  have hfr:∀ u:World,ny w u C2.1 g6 (aZ fV 0 z32 (.slice none 0 0) 0 z32 z64 z64) C3 p q→u.cell? ⟨g6,1,none⟩=some (.int .i64 0)∧u.frozen? ⟨g6,1,none⟩=false:=fun u h=>⟨by rw [aF h.m];exact lI,aC h.m 1⟩
  have qI:=acD hfr
  clear hfr
  go_upto_region 5 with (go_at_call 19; refine (HW3.out _ _ _ Bl.out).mono ?_;rintro e w6 ⟨rfl,hr⟩;have FX:=acD hr;obtain ⟨A8,tQ⟩:=qI.out _ hr;clear hr)
  obtain ⟨w7,hw⟩:∃ x,x=w6.setCell ⟨g6,1,none⟩ (.int .i64 fB):=⟨_,rfl⟩
  rw [← hw]
  have xK:=acD (FX.out.set 1 (.int .i64 fB))
  rw [qN,← hw] at xK
  clear hw A8 tQ qI Bl FX
  go_upto_region 6 with (first|(go_at_call 20; refine (HW4.out _ _ _ xK.out).mono ?_;rintro e w8 ⟨rfl,hr⟩;have uU:=acD hr;clear hr)|((with_reducible refine aT 20 ?_);refine bA rfl 23 _ _ rfl g6 2 _ (arr .u8 fR) 30 uU.out.m rfl rfl QH.out (Sl.bE yu.out) (av _ _) ?_;intro w9 hb hk hz;rw [yj.out] at hb;have FW:=acD (uU.out.put hk hb);clear hb hk hz))
  clear xK uU
  have hfr:∀ u:World,ny w u C2.1 g6 (aZ fV fB fR (.slice none 0 0) 0 z32 z64 z64) C5 p q→u.cell? ⟨g6,34,none⟩=some (.slice none 0 0)∧u.frozen? ⟨g6,34,none⟩=false:=fun u h=>⟨by rw [aF h.m];exact iq yu.out,aC h.m 34⟩
  have qI:=acD hfr
  clear hfr
  go_upto_region 7 with (go_at_call 18; refine (HW5.out _ _ _ FW.out).mono ?_;rintro e Us ⟨s10,c10,rfl,ho,hr⟩;have qF:=acD hr;have ow:=acD ho;obtain ⟨A8,tQ⟩:=qI.out _ hr;clear hr ho)
  obtain ⟨w11,hw⟩:∃ x,x=Us.setCell ⟨g6,34,none⟩ (.slice s10 nW c10):=⟨_,rfl⟩
  rw [← hw]
  have sP:=acD (qF.out.set 34 (.slice s10 nW c10))
  rw [lH yu.out,← hw] at sP
  have tF:Hid (aU w11 (max p g6+1) (.slice s10 nW c10) fW):=acD (by rw [hw];exact (ow.out).kept (T:=fun x=>x=g6) ((Kept.refl _ _).at _ _) (fun k e he=>by have:=ow.out.lt k e;omega))
  clear hw A8 tQ qI FW qF ow
  have hfr:∀ u:World,ny w u C2.1 g6 (aZ fV fB fR (.slice s10 nW c10) 0 z32 z64 z64) C6 p q→u.cell? ⟨g6,35,none⟩=some (.int .i64 0)∧u.frozen? ⟨g6,35,none⟩=false:=fun u h=>⟨by rw [aF h.m];exact lX yu.out,aC h.m 35⟩
  have qI:=acD hfr
  clear hfr
  go_upto_region 8 with (go_at_call 19; refine (Uy.out _ _ _ sP.out).mono ?_;rintro e w12 ⟨rfl,hr,hk⟩;have Bq:=acD hr;have tC:=acD (tF.out.kept hk (fun k e he=>by have:=tF.out.lt k e;omega));obtain ⟨A8,tQ⟩:=qI.out _ hr;clear hr hk)
  obtain ⟨w13,hw⟩:∃ x,x=w12.setCell ⟨g6,35,none⟩ (.int .i64 fI):=⟨_,rfl⟩
  rw [← hw]
  have sO:=acD (Bq.out.set 35 (.int .i64 fI))
  rw [nU yu.out,← hw] at sO
  have tu:Hid (aU w13 (max p g6+1) (.slice s10 nW c10) fW):=acD (by rw [hw];exact (tC.out).kept (T:=fun x=>x=g6) ((Kept.refl _ _).at _ _) (fun k e he=>by have:=tC.out.lt k e;omega))
  clear hw A8 tQ qI sP Bq tF tC
  have yh:=acD (yh.out (.slice s10 nW c10))
  have yc:=acD (yc.out (.slice s10 nW c10))
  have oK:=acD (oK.out (.slice s10 nW c10))
  have kE:=acD (kE.out (.slice s10 nW c10))
  have kD:=acD (kD.out (.slice s10 nW c10))
  have iX:=acD (iX.out (.slice s10 nW c10))
  go_upto_region 9 with (first|(go_at_call 20; refine (HW7.out _ _ _ sO.out).mono ?_;rintro e w14 ⟨rfl,hr,hk⟩;have sN:=acD hr;have tq:=acD (tu.out.kept hk (fun k e he=>by have:=tu.out.lt k e;omega));clear hr hk)|((with_reducible refine aT 31 ?_);refine bA rfl 23 _ _ rfl g6 36 _ (arr .u8 fK) 30 sN.out.m rfl rfl kE.out (Sl.bE HLK.out) (av _ _) ?_;intro w15 hb hk hz;rw [yh.out] at hb;have Bp:=acD (sN.out.put hk hb);have sW:=acD (tq.out.kept hk (fun k e he=>by have:=tq.out.lt k e;omega));clear hb hk hz))
  clear sO sN tu tq
  go_upto_region 10 with (first|(go_at_call 21; refine (HW8.out _ _ _ Bp.out).mono ?_;rintro e w16 ⟨rfl,hr,hk⟩;have sM:=acD hr;have sV:=acD (sW.out.kept hk (fun k e he=>by have:=sW.out.lt k e;omega));clear hr hk)|((with_reducible refine aT 35 ?_);refine bA rfl 26 _ _ rfl g6 68 _ (arr .u8 fG) 30 sM.out.m rfl rfl kD.out (Sl.lD HLG.out) (av _ _) ?_;intro w17 hb hk hz;rw [yc.out] at hb;have Bn:=acD (sM.out.put hk hb);have sU:=acD (sV.out.kept hk (fun k e he=>by have:=sV.out.lt k e;omega));clear hb hk hz))
  clear Bp sM sW sV
  go_upto_region 11 with (first|(go_at_call 21; refine (Ux.out _ _ _ Bn.out).mono ?_;rintro e w18 ⟨rfl,hr,hk⟩;have sK:=acD hr;have sQ:=acD (sU.out.kept hk (fun k e he=>by have:=sU.out.lt k e;omega));clear hr hk)|((with_reducible refine aT 38 ?_);refine bA rfl 26 _ _ rfl g6 132 _ (arr .u8 fS) 30 sK.out.m rfl rfl iX.out (Sl.lD HLS.out) (av _ _) ?_;intro w19 hb hk hz;rw [oK.out] at hb;have kG:=acD (sK.out.put hk hb);have Nz:=acD (sQ.out.kept hk (fun k e he=>by have:=sQ.out.lt k e;omega));clear hb hk hz))
  clear Bn sK sU sQ
  have GU:Hid ((Tryd.prog.info? 30).map (·.size)=some (aZ fV fB fR (.slice s10 nW c10) fI fK fG fS).size):=acD (by rw [bK yu.out HLK.out HLG.out HLS.out];exact eD)
  have Bt:=acD (HMY.out s10 c10)
  obtain ⟨FM,MG⟩:∃ M,M=aZ fV fB fR (.slice s10 nW c10) fI fK fG fS:=⟨_,rfl⟩
  have HFE:=acD MG
  rw [← MG] at kG GU Bt
  clear MG
  go_wp2_with (first|((with_reducible show Calls _ 22 _ _ _);go_at_call 22; refine (Ug.out _ _ _ kG.out).mono ?_;rintro e w20 ⟨rfl,rfl⟩)|((with_reducible refine aS 47 ?_);refine eX (by rfl) 30 _ rfl g6 rfl 30 _ (0,0) _ kG.out.m Tryd.underlying30 rfl GU.out ?_)|((with_reducible show Calls _ 23 _ _ _);go_at_call 23; refine (Bt.out _).mono ?_;rintro e w21 ⟨rfl,hb⟩;have x9:=acD (kG.out.fresh hb);have HO21:=acD (Nz.out.below hb);clear hb)|((with_reducible refine aS 51 ?_);refine wpList_build (by rfl) 30 _ rfl #[] rfl _ (HZ0.out _) ?_)|((with_reducible refine aT 2 ?_);refine ah rfl 30 _ _ rfl (w.heap.size) _ _ 30 (by have h:=kG.out.i;rw [HZC.out] at h;exact h) rfl rfl rfl HZI.out HZO.out ?_;intro w22 uI uH Fu;have Oq:=acD uI;have kV:=acD uH;clear uI uH Fu))
  all_goals (try simp only [Exit.then])
  refine bodyPost_ret (aV rfl _ _ (w.heap.size) 30 _ (0,0) _ _ rfl Oq.out Tryd.underlying30 rfl HZI.out rfl) rfl ?_
  exact ⟨_,_,rfl,⟨rfl,rfl⟩,kG.out.b.trans ⟨kV.out.os,kV.out.tape,kV.out.output,kV.out.size,fun i hi=>kV.out.block i (acG hi kG.out.b.size) (by omega)⟩⟩
 | true =>
  by_cases hH:fH_=[80,67,77,49]
  ·rw [decide_eq_true hH] at hq ⊢
   clear hH
   cases hok:gq fV fB nW fI with
   | false =>
    rw [hok] at nX
    have HMY:=acD nX
    clear nX hok
    simp only [Bool.and_false,Bool.false_eq_true,false_and,false_or,true_and]
    go_enter Tryd.func7, Tryd.ntmps7
    go_upto_region 1 with ((with_reducible refine aS 2 ?_);refine aj rfl 30 rfl _ (HZ.out _) ?_)
    generalize w.alloc (.cells mz 30)=wb at oW HI0 HS ⊢
    go_upto_region 2 with (go_at_call 17; refine (HCN.out _ HS.out).mono ?_;rintro e w1 ⟨p,q,rfl,hc1,hp1,hq1,hb1⟩;have HR1:Hid (OO w w1 w.heap.size mz 30 xs false p q):=acD ⟨Below.blk hb1 HI0.out (aO HI0.out),hc1,(by have:=aO HI0.out;omega),(by have:=aO HI0.out;omega),oW.out.trans (hb1.mono oW.out.size)⟩;clear hc1 hp1 hq1 hb1)
    go_upto_region 3 with (go_at_call 18; refine (HW1.out _ _ _ HR1.out).mono ?_;rintro e w2 ⟨v2,rfl,hv2,hr2⟩;have HR2:=acD hr2;clear hr2)
    clear hv2
    go_upto_region 4 with (first|(go_at_call 19; refine (HW2.out _ _ _ HR2.out).mono ?_;rintro e w3 ⟨rfl,hr3⟩;have HR3:=acD hr3;clear hr3)|((with_reducible refine aS 14 ?_);refine wpList_build (by rfl) 30 _ rfl #[(0, .int .i64 fV)] rfl _ (HBV.out _) ?_)|((with_reducible refine aS 6 ?_);refine aj rfl 30 rfl _ (HZ.out _) ?_;have HR4:=acD (HR3.out.fresh ((Below.refl _ w3).alloc (acF _) (.cells mz 30)));have HI4:Hid ((w3.alloc (.cells mz 30)).heap[w3.heap.size]? = some (.cells mz 30 (0,0))):=acD (aG w3 _);have lN:Hid (w.heap.size < w3.heap.size∧w3.heap.size≠p∧(C2.1≠[]→q≠w3.heap.size)):=acD ⟨aO HR3.out.i,(by have:=HR3.out.c.lt;omega),fun hz=>by have:=HR3.out.c.qlt hz;omega⟩;generalize w3.heap.size=g6 at HI4 lN ⊢; generalize w3.alloc (.cells mz 30)=w4 at HR4 HI4 ⊢)|((with_reducible refine aT 6 ?_);refine ah rfl 30 _ _ rfl (g6) _ _ 30 HI4.out rfl rfl xI.out HVI.out HVO.out ?_;intro w5 hb5 hk5 SK;have Bl:=acD (HMK.out _ _ _ _ HR4.out HI4.out lN.out.1 lN.out.2.1 lN.out.2.2 _ hk5 hb5);clear hb5 hk5 SK))
    (try simp only [World.size_alloc,Act.put,sA,sZ,sS])
    clear HR1 HR2 HR3 HR4 HI4 lN
    have hfr:∀ u:World,ny w u C2.1 g6 (aZ fV 0 z32 (.slice none 0 0) 0 z32 z64 z64) C3 p q→u.cell? ⟨g6,1,none⟩=some (.int .i64 0)∧u.frozen? ⟨g6,1,none⟩=false:=fun u h=>⟨by rw [aF h.m];exact lI,aC h.m 1⟩
    have qI:=acD hfr
    clear hfr
    go_upto_region 5 with (go_at_call 19; refine (HW3.out _ _ _ Bl.out).mono ?_;rintro e w6 ⟨rfl,hr⟩;have FX:=acD hr;obtain ⟨A8,tQ⟩:=qI.out _ hr;clear hr)
    obtain ⟨w7,hw⟩:∃ x,x=w6.setCell ⟨g6,1,none⟩ (.int .i64 fB):=⟨_,rfl⟩
    rw [← hw]
    have xK:=acD (FX.out.set 1 (.int .i64 fB))
    rw [qN,← hw] at xK
    clear hw A8 tQ qI Bl FX
    go_upto_region 6 with (first|(go_at_call 20; refine (HW4.out _ _ _ xK.out).mono ?_;rintro e w8 ⟨rfl,hr⟩;have uU:=acD hr;clear hr)|((with_reducible refine aT 20 ?_);refine bA rfl 23 _ _ rfl g6 2 _ (arr .u8 fR) 30 uU.out.m rfl rfl QH.out (Sl.bE yu.out) (av _ _) ?_;intro w9 hb hk hz;rw [yj.out] at hb;have FW:=acD (uU.out.put hk hb);clear hb hk hz))
    clear xK uU
    have hfr:∀ u:World,ny w u C2.1 g6 (aZ fV fB fR (.slice none 0 0) 0 z32 z64 z64) C5 p q→u.cell? ⟨g6,34,none⟩=some (.slice none 0 0)∧u.frozen? ⟨g6,34,none⟩=false:=fun u h=>⟨by rw [aF h.m];exact iq yu.out,aC h.m 34⟩
    have qI:=acD hfr
    clear hfr
    go_upto_region 7 with (go_at_call 18; refine (HW5.out _ _ _ FW.out).mono ?_;rintro e Us ⟨s10,c10,rfl,ho,hr⟩;have qF:=acD hr;have ow:=acD ho;obtain ⟨A8,tQ⟩:=qI.out _ hr;clear hr ho)
    obtain ⟨w11,hw⟩:∃ x,x=Us.setCell ⟨g6,34,none⟩ (.slice s10 nW c10):=⟨_,rfl⟩
    rw [← hw]
    have sP:=acD (qF.out.set 34 (.slice s10 nW c10))
    rw [lH yu.out,← hw] at sP
    have tF:Hid (aU w11 (max p g6+1) (.slice s10 nW c10) fW):=acD (by rw [hw];exact (ow.out).kept (T:=fun x=>x=g6) ((Kept.refl _ _).at _ _) (fun k e he=>by have:=ow.out.lt k e;omega))
    clear hw A8 tQ qI FW qF ow
    have hfr:∀ u:World,ny w u C2.1 g6 (aZ fV fB fR (.slice s10 nW c10) 0 z32 z64 z64) C6 p q→u.cell? ⟨g6,35,none⟩=some (.int .i64 0)∧u.frozen? ⟨g6,35,none⟩=false:=fun u h=>⟨by rw [aF h.m];exact lX yu.out,aC h.m 35⟩
    have qI:=acD hfr
    clear hfr
    go_upto_region 8 with (go_at_call 19; refine (Uy.out _ _ _ sP.out).mono ?_;rintro e w12 ⟨rfl,hr,hk⟩;have Bq:=acD hr;have tC:=acD (tF.out.kept hk (fun k e he=>by have:=tF.out.lt k e;omega));obtain ⟨A8,tQ⟩:=qI.out _ hr;clear hr hk)
    obtain ⟨w13,hw⟩:∃ x,x=w12.setCell ⟨g6,35,none⟩ (.int .i64 fI):=⟨_,rfl⟩
    rw [← hw]
    have sO:=acD (Bq.out.set 35 (.int .i64 fI))
    rw [nU yu.out,← hw] at sO
    have tu:Hid (aU w13 (max p g6+1) (.slice s10 nW c10) fW):=acD (by rw [hw];exact (tC.out).kept (T:=fun x=>x=g6) ((Kept.refl _ _).at _ _) (fun k e he=>by have:=tC.out.lt k e;omega))
    clear hw A8 tQ qI sP Bq tF tC
    have yh:=acD (yh.out (.slice s10 nW c10))
    have yc:=acD (yc.out (.slice s10 nW c10))
    have oK:=acD (oK.out (.slice s10 nW c10))
    have kE:=acD (kE.out (.slice s10 nW c10))
    have kD:=acD (kD.out (.slice s10 nW c10))
    have iX:=acD (iX.out (.slice s10 nW c10))
    go_upto_region 9 with (first|(go_at_call 20; refine (HW7.out _ _ _ sO.out).mono ?_;rintro e w14 ⟨rfl,hr,hk⟩;have sN:=acD hr;have tq:=acD (tu.out.kept hk (fun k e he=>by have:=tu.out.lt k e;omega));clear hr hk)|((with_reducible refine aT 31 ?_);refine bA rfl 23 _ _ rfl g6 36 _ (arr .u8 fK) 30 sN.out.m rfl rfl kE.out (Sl.bE HLK.out) (av _ _) ?_;intro w15 hb hk hz;rw [yh.out] at hb;have Bp:=acD (sN.out.put hk hb);have sW:=acD (tq.out.kept hk (fun k e he=>by have:=tq.out.lt k e;omega));clear hb hk hz))
    clear sO sN tu tq
    go_upto_region 10 with (first|(go_at_call 21; refine (HW8.out _ _ _ Bp.out).mono ?_;rintro e w16 ⟨rfl,hr,hk⟩;have sM:=acD hr;have sV:=acD (sW.out.kept hk (fun k e he=>by have:=sW.out.lt k e;omega));clear hr hk)|((with_reducible refine aT 35 ?_);refine bA rfl 26 _ _ rfl g6 68 _ (arr .u8 fG) 30 sM.out.m rfl rfl kD.out (Sl.lD HLG.out) (av _ _) ?_;intro w17 hb hk hz;rw [yc.out] at hb;have Bn:=acD (sM.out.put hk hb);have sU:=acD (sV.out.kept hk (fun k e he=>by have:=sV.out.lt k e;omega));clear hb hk hz))
    clear Bp sM sW sV
    go_upto_region 11 with (first|(go_at_call 21; refine (Ux.out _ _ _ Bn.out).mono ?_;rintro e w18 ⟨rfl,hr,hk⟩;have sK:=acD hr;have sQ:=acD (sU.out.kept hk (fun k e he=>by have:=sU.out.lt k e;omega));clear hr hk)|((with_reducible refine aT 38 ?_);refine bA rfl 26 _ _ rfl g6 132 _ (arr .u8 fS) 30 sK.out.m rfl rfl iX.out (Sl.lD HLS.out) (av _ _) ?_;intro w19 hb hk hz;rw [oK.out] at hb;have kG:=acD (sK.out.put hk hb);have Nz:=acD (sQ.out.kept hk (fun k e he=>by have:=sQ.out.lt k e;omega));clear hb hk hz))
    clear Bn sK sU sQ
    have GU:Hid ((Tryd.prog.info? 30).map (·.size)=some (aZ fV fB fR (.slice s10 nW c10) fI fK fG fS).size):=acD (by rw [bK yu.out HLK.out HLG.out HLS.out];exact eD)
    have Bt:=acD (HMY.out s10 c10)
    obtain ⟨FM,MG⟩:∃ M,M=aZ fV fB fR (.slice s10 nW c10) fI fK fG fS:=⟨_,rfl⟩
    have HFE:=acD MG
    rw [← MG] at kG GU Bt
    clear MG
    go_wp2_with (first|((with_reducible show Calls _ 22 _ _ _);go_at_call 22; refine (Ug.out _ _ _ kG.out).mono ?_;rintro e w20 ⟨rfl,rfl⟩)|((with_reducible refine aS 47 ?_);refine eX (by rfl) 30 _ rfl g6 rfl 30 _ (0,0) _ kG.out.m Tryd.underlying30 rfl GU.out ?_)|((with_reducible show Calls _ 23 _ _ _);go_at_call 23; refine (Bt.out _).mono ?_;rintro e w21 ⟨rfl,hb⟩;have x9:=acD (kG.out.fresh hb);have HO21:=acD (Nz.out.below hb);clear hb)|((with_reducible refine aS 51 ?_);refine wpList_build (by rfl) 30 _ rfl #[] rfl _ (HZ0.out _) ?_)|((with_reducible refine aT 2 ?_);refine ah rfl 30 _ _ rfl (w.heap.size) _ _ 30 (by have h:=x9.out.i;rw [HZC.out] at h;exact h) rfl rfl rfl HZI.out HZO.out ?_;intro w22 uI uH Fu;have Oq:=acD uI;have kV:=acD uH;clear uI uH Fu))
    all_goals (try simp only [Exit.then])
    refine bodyPost_ret (aV rfl _ _ (w.heap.size) 30 _ (0,0) _ _ rfl Oq.out Tryd.underlying30 rfl HZI.out rfl) rfl ?_
    exact ⟨_,_,rfl,⟨rfl,rfl⟩,x9.out.b.trans ⟨kV.out.os,kV.out.tape,kV.out.output,kV.out.size,fun i hi=>kV.out.block i (acG hi x9.out.b.size) (by omega)⟩⟩
   | true =>
    rw [hok] at nX
    have HMY:=acD nX
    clear nX hok
    go_enter Tryd.func7, Tryd.ntmps7
    go_upto_region 1 with ((with_reducible refine aS 2 ?_);refine aj rfl 30 rfl _ (HZ.out _) ?_)
    generalize w.alloc (.cells mz 30)=wb at oW HI0 HS ⊢
    go_upto_region 2 with (go_at_call 17; refine (HCN.out _ HS.out).mono ?_;rintro e w1 ⟨p,q,rfl,hc1,hp1,hq1,hb1⟩;have HR1:Hid (OO w w1 w.heap.size mz 30 xs false p q):=acD ⟨Below.blk hb1 HI0.out (aO HI0.out),hc1,(by have:=aO HI0.out;omega),(by have:=aO HI0.out;omega),oW.out.trans (hb1.mono oW.out.size)⟩;clear hc1 hp1 hq1 hb1)
    go_upto_region 3 with (go_at_call 18; refine (HW1.out _ _ _ HR1.out).mono ?_;rintro e w2 ⟨v2,rfl,hv2,hr2⟩;have HR2:=acD hr2;clear hr2)
    clear hv2
    go_upto_region 4 with (first|(go_at_call 19; refine (HW2.out _ _ _ HR2.out).mono ?_;rintro e w3 ⟨rfl,hr3⟩;have HR3:=acD hr3;clear hr3)|((with_reducible refine aS 14 ?_);refine wpList_build (by rfl) 30 _ rfl #[(0, .int .i64 fV)] rfl _ (HBV.out _) ?_)|((with_reducible refine aS 6 ?_);refine aj rfl 30 rfl _ (HZ.out _) ?_;have HR4:=acD (HR3.out.fresh ((Below.refl _ w3).alloc (acF _) (.cells mz 30)));have HI4:Hid ((w3.alloc (.cells mz 30)).heap[w3.heap.size]? = some (.cells mz 30 (0,0))):=acD (aG w3 _);have lN:Hid (w.heap.size < w3.heap.size∧w3.heap.size≠p∧(C2.1≠[]→q≠w3.heap.size)):=acD ⟨aO HR3.out.i,(by have:=HR3.out.c.lt;omega),fun hz=>by have:=HR3.out.c.qlt hz;omega⟩;generalize w3.heap.size=g6 at HI4 lN ⊢; generalize w3.alloc (.cells mz 30)=w4 at HR4 HI4 ⊢)|((with_reducible refine aT 6 ?_);refine ah rfl 30 _ _ rfl (g6) _ _ 30 HI4.out rfl rfl xI.out HVI.out HVO.out ?_;intro w5 hb5 hk5 SK;have Bl:=acD (HMK.out _ _ _ _ HR4.out HI4.out lN.out.1 lN.out.2.1 lN.out.2.2 _ hk5 hb5);clear hb5 hk5 SK))
    (try simp only [World.size_alloc,Act.put,sA,sZ,sS])
    clear HR1 HR2 HR3 HR4 HI4 lN
    have hfr:∀ u:World,ny w u C2.1 g6 (aZ fV 0 z32 (.slice none 0 0) 0 z32 z64 z64) C3 p q→u.cell? ⟨g6,1,none⟩=some (.int .i64 0)∧u.frozen? ⟨g6,1,none⟩=false:=fun u h=>⟨by rw [aF h.m];exact lI,aC h.m 1⟩
    have qI:=acD hfr
    clear hfr
    go_upto_region 5 with (go_at_call 19; refine (HW3.out _ _ _ Bl.out).mono ?_;rintro e w6 ⟨rfl,hr⟩;have FX:=acD hr;obtain ⟨A8,tQ⟩:=qI.out _ hr;clear hr)
    obtain ⟨w7,hw⟩:∃ x,x=w6.setCell ⟨g6,1,none⟩ (.int .i64 fB):=⟨_,rfl⟩
    rw [← hw]
    have xK:=acD (FX.out.set 1 (.int .i64 fB))
    rw [qN,← hw] at xK
    clear hw A8 tQ qI Bl FX
    go_upto_region 6 with (first|(go_at_call 20; refine (HW4.out _ _ _ xK.out).mono ?_;rintro e w8 ⟨rfl,hr⟩;have uU:=acD hr;clear hr)|((with_reducible refine aT 20 ?_);refine bA rfl 23 _ _ rfl g6 2 _ (arr .u8 fR) 30 uU.out.m rfl rfl QH.out (Sl.bE yu.out) (av _ _) ?_;intro w9 hb hk hz;rw [yj.out] at hb;have FW:=acD (uU.out.put hk hb);clear hb hk hz))
    clear xK uU
    have hfr:∀ u:World,ny w u C2.1 g6 (aZ fV fB fR (.slice none 0 0) 0 z32 z64 z64) C5 p q→u.cell? ⟨g6,34,none⟩=some (.slice none 0 0)∧u.frozen? ⟨g6,34,none⟩=false:=fun u h=>⟨by rw [aF h.m];exact iq yu.out,aC h.m 34⟩
    have qI:=acD hfr
    clear hfr
    go_upto_region 7 with (go_at_call 18; refine (HW5.out _ _ _ FW.out).mono ?_;rintro e Us ⟨s10,c10,rfl,ho,hr⟩;have qF:=acD hr;have ow:=acD ho;obtain ⟨A8,tQ⟩:=qI.out _ hr;clear hr ho)
    obtain ⟨w11,hw⟩:∃ x,x=Us.setCell ⟨g6,34,none⟩ (.slice s10 nW c10):=⟨_,rfl⟩
    rw [← hw]
    have sP:=acD (qF.out.set 34 (.slice s10 nW c10))
    rw [lH yu.out,← hw] at sP
    have tF:Hid (aU w11 (max p g6+1) (.slice s10 nW c10) fW):=acD (by rw [hw];exact (ow.out).kept (T:=fun x=>x=g6) ((Kept.refl _ _).at _ _) (fun k e he=>by have:=ow.out.lt k e;omega))
    clear hw A8 tQ qI FW qF ow
    have hfr:∀ u:World,ny w u C2.1 g6 (aZ fV fB fR (.slice s10 nW c10) 0 z32 z64 z64) C6 p q→u.cell? ⟨g6,35,none⟩=some (.int .i64 0)∧u.frozen? ⟨g6,35,none⟩=false:=fun u h=>⟨by rw [aF h.m];exact lX yu.out,aC h.m 35⟩
    have qI:=acD hfr
    clear hfr
    go_upto_region 8 with (go_at_call 19; refine (Uy.out _ _ _ sP.out).mono ?_;rintro e w12 ⟨rfl,hr,hk⟩;have Bq:=acD hr;have tC:=acD (tF.out.kept hk (fun k e he=>by have:=tF.out.lt k e;omega));obtain ⟨A8,tQ⟩:=qI.out _ hr;clear hr hk)
    obtain ⟨w13,hw⟩:∃ x,x=w12.setCell ⟨g6,35,none⟩ (.int .i64 fI):=⟨_,rfl⟩
    rw [← hw]
    have sO:=acD (Bq.out.set 35 (.int .i64 fI))
    rw [nU yu.out,← hw] at sO
    have tu:Hid (aU w13 (max p g6+1) (.slice s10 nW c10) fW):=acD (by rw [hw];exact (tC.out).kept (T:=fun x=>x=g6) ((Kept.refl _ _).at _ _) (fun k e he=>by have:=tC.out.lt k e;omega))
    clear hw A8 tQ qI sP Bq tF tC
    have yh:=acD (yh.out (.slice s10 nW c10))
    have yc:=acD (yc.out (.slice s10 nW c10))
    have oK:=acD (oK.out (.slice s10 nW c10))
    have kE:=acD (kE.out (.slice s10 nW c10))
    have kD:=acD (kD.out (.slice s10 nW c10))
    have iX:=acD (iX.out (.slice s10 nW c10))
    go_upto_region 9 with (first|(go_at_call 20; refine (HW7.out _ _ _ sO.out).mono ?_;rintro e w14 ⟨rfl,hr,hk⟩;have sN:=acD hr;have tq:=acD (tu.out.kept hk (fun k e he=>by have:=tu.out.lt k e;omega));clear hr hk)|((with_reducible refine aT 31 ?_);refine bA rfl 23 _ _ rfl g6 36 _ (arr .u8 fK) 30 sN.out.m rfl rfl kE.out (Sl.bE HLK.out) (av _ _) ?_;intro w15 hb hk hz;rw [yh.out] at hb;have Bp:=acD (sN.out.put hk hb);have sW:=acD (tq.out.kept hk (fun k e he=>by have:=tq.out.lt k e;omega));clear hb hk hz))
    clear sO sN tu tq
    go_upto_region 10 with (first|(go_at_call 21; refine (HW8.out _ _ _ Bp.out).mono ?_;rintro e w16 ⟨rfl,hr,hk⟩;have sM:=acD hr;have sV:=acD (sW.out.kept hk (fun k e he=>by have:=sW.out.lt k e;omega));clear hr hk)|((with_reducible refine aT 35 ?_);refine bA rfl 26 _ _ rfl g6 68 _ (arr .u8 fG) 30 sM.out.m rfl rfl kD.out (Sl.lD HLG.out) (av _ _) ?_;intro w17 hb hk hz;rw [yc.out] at hb;have Bn:=acD (sM.out.put hk hb);have sU:=acD (sV.out.kept hk (fun k e he=>by have:=sV.out.lt k e;omega));clear hb hk hz))
    clear Bp sM sW sV
    go_upto_region 11 with (first|(go_at_call 21; refine (Ux.out _ _ _ Bn.out).mono ?_;rintro e w18 ⟨rfl,hr,hk⟩;have sK:=acD hr;have sQ:=acD (sU.out.kept hk (fun k e he=>by have:=sU.out.lt k e;omega));clear hr hk)|((with_reducible refine aT 38 ?_);refine bA rfl 26 _ _ rfl g6 132 _ (arr .u8 fS) 30 sK.out.m rfl rfl iX.out (Sl.lD HLS.out) (av _ _) ?_;intro w19 hb hk hz;rw [oK.out] at hb;have kG:=acD (sK.out.put hk hb);have Nz:=acD (sQ.out.kept hk (fun k e he=>by have:=sQ.out.lt k e;omega));clear hb hk hz))
    clear Bn sK sU sQ
    have GU:Hid ((Tryd.prog.info? 30).map (·.size)=some (aZ fV fB fR (.slice s10 nW c10) fI fK fG fS).size):=acD (by rw [bK yu.out HLK.out HLG.out HLS.out];exact eD)
    have Bt:=acD (HMY.out s10 c10)
    obtain ⟨FM,MG⟩:∃ M,M=aZ fV fB fR (.slice s10 nW c10) fI fK fG fS:=⟨_,rfl⟩
    have HFE:=acD MG
    rw [← MG] at kG GU Bt
    clear MG
    go_wp2_with (first|((with_reducible show Calls _ 22 _ _ _);go_at_call 22; refine (Ug.out _ _ _ kG.out).mono ?_;rintro e w20 ⟨rfl,rfl⟩)|((with_reducible refine aS 47 ?_);refine eX (by rfl) 30 _ rfl g6 rfl 30 _ (0,0) _ kG.out.m Tryd.underlying30 rfl GU.out ?_)|((with_reducible show Calls _ 23 _ _ _);go_at_call 23; refine (Bt.out _).mono ?_;rintro e w21 ⟨rfl,hb⟩;have x9:=acD (kG.out.fresh hb);have HO21:=acD (Nz.out.below hb);clear hb)|((with_reducible refine aS 52 ?_);refine wpList_load_row rfl 30 _ rfl g6 rfl 30 _ (0,0) _ x9.out.m Tryd.underlying30 rfl GU.out ?_)|((with_reducible refine aT 2 ?_);refine ah rfl 30 _ _ rfl (w.heap.size) _ _ 30 (by have h:=x9.out.i;rw [HZC.out] at h;exact h) rfl rfl (by rw [HFE.out,bK yu.out HLK.out HLG.out HLS.out,HZM.out]) GU.out (by rw [HFE.out];exact jo rfl) ?_;intro w22 uI uH Fu;have Oq:=acD uI;have kV:=acD uH;clear uI uH Fu))
    all_goals (try simp only [Exit.then])
    refine bodyPost_ret (aV rfl _ _ (w.heap.size) 30 _ (0,0) _ _ rfl Oq.out Tryd.underlying30 rfl GU.out rfl) rfl ?_
    exact ⟨_,_,rfl, .inl ⟨rfl,rfl,s10,c10,HFE.out,(HO21.out.kept kV.out (fun k e he=>by have:=HO21.out.lt k e;have:=x9.out.n3;omega)).mono (by have:=x9.out.n3;omega)⟩,x9.out.b.trans ⟨kV.out.os,kV.out.tape,kV.out.output,kV.out.size,fun i hi=>kV.out.block i (acG hi x9.out.b.size) (by omega)⟩⟩
  ·rw [decide_eq_false hH] at hq ⊢
   clear hH
   have HMY:=acD nX
   clear nX
   simp only [Bool.and_false,Bool.false_and,Bool.false_eq_true,false_and,false_or,true_and]
   go_enter Tryd.func7, Tryd.ntmps7
   go_upto_region 1 with ((with_reducible refine aS 2 ?_);refine aj rfl 30 rfl _ (HZ.out _) ?_)
   generalize w.alloc (.cells mz 30)=wb at oW HI0 HS ⊢
   go_upto_region 2 with (go_at_call 17; refine (HCN.out _ HS.out).mono ?_;rintro e w1 ⟨p,q,rfl,hc1,hp1,hq1,hb1⟩;have HR1:Hid (OO w w1 w.heap.size mz 30 xs false p q):=acD ⟨Below.blk hb1 HI0.out (aO HI0.out),hc1,(by have:=aO HI0.out;omega),(by have:=aO HI0.out;omega),oW.out.trans (hb1.mono oW.out.size)⟩;clear hc1 hp1 hq1 hb1)
   go_upto_region 3 with (go_at_call 18; refine (HW1.out _ _ _ HR1.out).mono ?_;rintro e w2 ⟨v2,rfl,hv2,hr2⟩;have HR2:=acD hr2;clear hr2)
   clear hv2
   go_upto_region 4 with (first|(go_at_call 19; refine (HW2.out _ _ _ HR2.out).mono ?_;rintro e w3 ⟨rfl,hr3⟩;have HR3:=acD hr3;clear hr3)|((with_reducible refine aS 14 ?_);refine wpList_build (by rfl) 30 _ rfl #[(0, .int .i64 fV)] rfl _ (HBV.out _) ?_)|((with_reducible refine aS 6 ?_);refine aj rfl 30 rfl _ (HZ.out _) ?_;have HR4:=acD (HR3.out.fresh ((Below.refl _ w3).alloc (acF _) (.cells mz 30)));have HI4:Hid ((w3.alloc (.cells mz 30)).heap[w3.heap.size]? = some (.cells mz 30 (0,0))):=acD (aG w3 _);have lN:Hid (w.heap.size < w3.heap.size∧w3.heap.size≠p∧(C2.1≠[]→q≠w3.heap.size)):=acD ⟨aO HR3.out.i,(by have:=HR3.out.c.lt;omega),fun hz=>by have:=HR3.out.c.qlt hz;omega⟩;generalize w3.heap.size=g6 at HI4 lN ⊢; generalize w3.alloc (.cells mz 30)=w4 at HR4 HI4 ⊢)|((with_reducible refine aT 6 ?_);refine ah rfl 30 _ _ rfl (g6) _ _ 30 HI4.out rfl rfl xI.out HVI.out HVO.out ?_;intro w5 hb5 hk5 SK;have Bl:=acD (HMK.out _ _ _ _ HR4.out HI4.out lN.out.1 lN.out.2.1 lN.out.2.2 _ hk5 hb5);clear hb5 hk5 SK))
   (try simp only [World.size_alloc,Act.put,sA,sZ,sS])
   clear HR1 HR2 HR3 HR4 HI4 lN
   have hfr:∀ u:World,ny w u C2.1 g6 (aZ fV 0 z32 (.slice none 0 0) 0 z32 z64 z64) C3 p q→u.cell? ⟨g6,1,none⟩=some (.int .i64 0)∧u.frozen? ⟨g6,1,none⟩=false:=fun u h=>⟨by rw [aF h.m];exact lI,aC h.m 1⟩
   have qI:=acD hfr
   clear hfr
   go_upto_region 5 with (go_at_call 19; refine (HW3.out _ _ _ Bl.out).mono ?_;rintro e w6 ⟨rfl,hr⟩;have FX:=acD hr;obtain ⟨A8,tQ⟩:=qI.out _ hr;clear hr)
   obtain ⟨w7,hw⟩:∃ x,x=w6.setCell ⟨g6,1,none⟩ (.int .i64 fB):=⟨_,rfl⟩
   rw [← hw]
   have xK:=acD (FX.out.set 1 (.int .i64 fB))
   rw [qN,← hw] at xK
   clear hw A8 tQ qI Bl FX
   go_upto_region 6 with (first|(go_at_call 20; refine (HW4.out _ _ _ xK.out).mono ?_;rintro e w8 ⟨rfl,hr⟩;have uU:=acD hr;clear hr)|((with_reducible refine aT 20 ?_);refine bA rfl 23 _ _ rfl g6 2 _ (arr .u8 fR) 30 uU.out.m rfl rfl QH.out (Sl.bE yu.out) (av _ _) ?_;intro w9 hb hk hz;rw [yj.out] at hb;have FW:=acD (uU.out.put hk hb);clear hb hk hz))
   clear xK uU
   have hfr:∀ u:World,ny w u C2.1 g6 (aZ fV fB fR (.slice none 0 0) 0 z32 z64 z64) C5 p q→u.cell? ⟨g6,34,none⟩=some (.slice none 0 0)∧u.frozen? ⟨g6,34,none⟩=false:=fun u h=>⟨by rw [aF h.m];exact iq yu.out,aC h.m 34⟩
   have qI:=acD hfr
   clear hfr
   go_upto_region 7 with (go_at_call 18; refine (HW5.out _ _ _ FW.out).mono ?_;rintro e Us ⟨s10,c10,rfl,ho,hr⟩;have qF:=acD hr;have ow:=acD ho;obtain ⟨A8,tQ⟩:=qI.out _ hr;clear hr ho)
   obtain ⟨w11,hw⟩:∃ x,x=Us.setCell ⟨g6,34,none⟩ (.slice s10 nW c10):=⟨_,rfl⟩
   rw [← hw]
   have sP:=acD (qF.out.set 34 (.slice s10 nW c10))
   rw [lH yu.out,← hw] at sP
   have tF:Hid (aU w11 (max p g6+1) (.slice s10 nW c10) fW):=acD (by rw [hw];exact (ow.out).kept (T:=fun x=>x=g6) ((Kept.refl _ _).at _ _) (fun k e he=>by have:=ow.out.lt k e;omega))
   clear hw A8 tQ qI FW qF ow
   have hfr:∀ u:World,ny w u C2.1 g6 (aZ fV fB fR (.slice s10 nW c10) 0 z32 z64 z64) C6 p q→u.cell? ⟨g6,35,none⟩=some (.int .i64 0)∧u.frozen? ⟨g6,35,none⟩=false:=fun u h=>⟨by rw [aF h.m];exact lX yu.out,aC h.m 35⟩
   have qI:=acD hfr
   clear hfr
   go_upto_region 8 with (go_at_call 19; refine (Uy.out _ _ _ sP.out).mono ?_;rintro e w12 ⟨rfl,hr,hk⟩;have Bq:=acD hr;have tC:=acD (tF.out.kept hk (fun k e he=>by have:=tF.out.lt k e;omega));obtain ⟨A8,tQ⟩:=qI.out _ hr;clear hr hk)
   obtain ⟨w13,hw⟩:∃ x,x=w12.setCell ⟨g6,35,none⟩ (.int .i64 fI):=⟨_,rfl⟩
   rw [← hw]
   have sO:=acD (Bq.out.set 35 (.int .i64 fI))
   rw [nU yu.out,← hw] at sO
   have tu:Hid (aU w13 (max p g6+1) (.slice s10 nW c10) fW):=acD (by rw [hw];exact (tC.out).kept (T:=fun x=>x=g6) ((Kept.refl _ _).at _ _) (fun k e he=>by have:=tC.out.lt k e;omega))
   clear hw A8 tQ qI sP Bq tF tC
   have yh:=acD (yh.out (.slice s10 nW c10))
   have yc:=acD (yc.out (.slice s10 nW c10))
   have oK:=acD (oK.out (.slice s10 nW c10))
   have kE:=acD (kE.out (.slice s10 nW c10))
   have kD:=acD (kD.out (.slice s10 nW c10))
   have iX:=acD (iX.out (.slice s10 nW c10))
   go_upto_region 9 with (first|(go_at_call 20; refine (HW7.out _ _ _ sO.out).mono ?_;rintro e w14 ⟨rfl,hr,hk⟩;have sN:=acD hr;have tq:=acD (tu.out.kept hk (fun k e he=>by have:=tu.out.lt k e;omega));clear hr hk)|((with_reducible refine aT 31 ?_);refine bA rfl 23 _ _ rfl g6 36 _ (arr .u8 fK) 30 sN.out.m rfl rfl kE.out (Sl.bE HLK.out) (av _ _) ?_;intro w15 hb hk hz;rw [yh.out] at hb;have Bp:=acD (sN.out.put hk hb);have sW:=acD (tq.out.kept hk (fun k e he=>by have:=tq.out.lt k e;omega));clear hb hk hz))
   clear sO sN tu tq
   go_upto_region 10 with (first|(go_at_call 21; refine (HW8.out _ _ _ Bp.out).mono ?_;rintro e w16 ⟨rfl,hr,hk⟩;have sM:=acD hr;have sV:=acD (sW.out.kept hk (fun k e he=>by have:=sW.out.lt k e;omega));clear hr hk)|((with_reducible refine aT 35 ?_);refine bA rfl 26 _ _ rfl g6 68 _ (arr .u8 fG) 30 sM.out.m rfl rfl kD.out (Sl.lD HLG.out) (av _ _) ?_;intro w17 hb hk hz;rw [yc.out] at hb;have Bn:=acD (sM.out.put hk hb);have sU:=acD (sV.out.kept hk (fun k e he=>by have:=sV.out.lt k e;omega));clear hb hk hz))
   clear Bp sM sW sV
   go_upto_region 11 with (first|(go_at_call 21; refine (Ux.out _ _ _ Bn.out).mono ?_;rintro e w18 ⟨rfl,hr,hk⟩;have sK:=acD hr;have sQ:=acD (sU.out.kept hk (fun k e he=>by have:=sU.out.lt k e;omega));clear hr hk)|((with_reducible refine aT 38 ?_);refine bA rfl 26 _ _ rfl g6 132 _ (arr .u8 fS) 30 sK.out.m rfl rfl iX.out (Sl.lD HLS.out) (av _ _) ?_;intro w19 hb hk hz;rw [oK.out] at hb;have kG:=acD (sK.out.put hk hb);have Nz:=acD (sQ.out.kept hk (fun k e he=>by have:=sQ.out.lt k e;omega));clear hb hk hz))
   clear Bn sK sU sQ
   have GU:Hid ((Tryd.prog.info? 30).map (·.size)=some (aZ fV fB fR (.slice s10 nW c10) fI fK fG fS).size):=acD (by rw [bK yu.out HLK.out HLG.out HLS.out];exact eD)
   have Bt:=acD (HMY.out s10 c10)
   obtain ⟨FM,MG⟩:∃ M,M=aZ fV fB fR (.slice s10 nW c10) fI fK fG fS:=⟨_,rfl⟩
   have HFE:=acD MG
   rw [← MG] at kG GU Bt
   clear MG
   go_wp2_with (first|((with_reducible show Calls _ 22 _ _ _);go_at_call 22; refine (Ug.out _ _ _ kG.out).mono ?_;rintro e w20 ⟨rfl,rfl⟩)|((with_reducible refine aS 47 ?_);refine eX (by rfl) 30 _ rfl g6 rfl 30 _ (0,0) _ kG.out.m Tryd.underlying30 rfl GU.out ?_)|((with_reducible show Calls _ 23 _ _ _);go_at_call 23; refine (Bt.out _).mono ?_;rintro e w21 ⟨rfl,hb⟩;have x9:=acD (kG.out.fresh hb);have HO21:=acD (Nz.out.below hb);clear hb)|((with_reducible refine aS 51 ?_);refine wpList_build (by rfl) 30 _ rfl #[] rfl _ (HZ0.out _) ?_)|((with_reducible refine aT 2 ?_);refine ah rfl 30 _ _ rfl (w.heap.size) _ _ 30 (by have h:=kG.out.i;rw [HZC.out] at h;exact h) rfl rfl rfl HZI.out HZO.out ?_;intro w22 uI uH Fu;have Oq:=acD uI;have kV:=acD uH;clear uI uH Fu))
   all_goals (try simp only [Exit.then])
   refine bodyPost_ret (aV rfl _ _ (w.heap.size) 30 _ (0,0) _ _ rfl Oq.out Tryd.underlying30 rfl HZI.out rfl) rfl ?_
   exact ⟨_,_,rfl,⟨rfl,rfl⟩,kG.out.b.trans ⟨kV.out.os,kV.out.tape,kV.out.output,kV.out.size,fun i hi=>kV.out.block i (acG hi kG.out.b.size) (by omega)⟩⟩
end Go.Proofs.YthdgbgleklkaiaaDoor.Mf
