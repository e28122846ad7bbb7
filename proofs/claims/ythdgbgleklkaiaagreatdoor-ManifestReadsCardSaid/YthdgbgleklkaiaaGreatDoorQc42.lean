/- manifest.Read. Condition: as each theorem says. -/

import Derived.Test.YthdgbgleklkaiaaGreatDoorQc37
open Go.Lib renaming hid→abC
open Nat renaming le_trans→abD,lt_of_lt_of_le→abE,le_refl→abF
set_option linter.unusedSimpArgs false
set_option linter.unusedVariables false
set_option maxRecDepth 100000
set_option maxHeartbeats 16000000
namespace Go.Proofs.YthdgbgleklkaiaaGreatDoor.Mf
open Go.RowKit Lm Fp Cu Sl Sc Ce
theorem tq (sa:Option Addr) (n c:Nat) (xs:List Int) (w:World) (hs:Src w sa n xs) (hx:bytes xs) (hn:n≤1099511627776) :
  Calls Tryz.prog 11 #[.slice sa n c] w fun e w'=>∃ M E,e = .returned (.tuple #[.agg M, .int .i64 E])∧((F5 xs=true∧E=0∧∃ sw cw,M=bg (fv xs) (fb xs) (tY xs) (.slice sw (fws xs).length cw) (fi xs) (sF xs) (sG xs) (sD xs)∧aU w' w.heap.size (.slice sw (fws xs).length cw) (fws xs))∨(F5 xs=false∧E=4∧M=gI))∧Below w.heap.size w w':=by
 have hxl:xs.length≤1099511627776:=by rw [hs.len];exact hn
 have hml:=mc_len xs
 have hcn:=fun (u:World) (h:Src u sa n xs)=>ZM sa n c xs u h hn
 have hw1:∀ u p q,U5 w u w.heap.size gI 31 xs false p q→Calls Tryz.prog 40 #[.pointer (some ⟨p,0,none⟩), .int .i64 4] u fun e w'=>∃ v,e = .returned v∧(convert 22 9 v).run Tryz.prog w' = .ok (.string (strOfNums (fH xs))) w'∧U5 w w' w.heap.size gI 31 (Cv xs).1 (Cv xs).2 p q:=by
  intro u p q hu
  refine (pX p q xs false 4 u hu.c hxl).mono ?_
  rintro e w' ⟨v,rfl,ho,hc,hk⟩
  exact ⟨v,rfl,ho.str,hu.turn hk hc⟩
 have hw2:∀ u p q,U5 w u w.heap.size gI 31 (Cv xs).1 (Cv xs).2 p q→Calls Tryz.prog 41 #[.pointer (some ⟨p,0,none⟩)] u fun e w'=>e = .returned (.int .i64 (fv xs))∧U5 w w' w.heap.size gI 31 (mU xs).1 (mU xs).2 p q:=by
  intro u p q hu
  refine (Bh p q (Cv xs).1 (Cv xs).2 u hu.c (abD hml.1 hxl)).mono ?_
  rintro e w' ⟨rfl,hc,hk⟩
  exact ⟨rfl,hu.turn hk hc⟩
 have hmk:∀ u p q g,U5 w u w.heap.size gI 31 (mU xs).1 (mU xs).2 p q→u.heap[g]? = some (.cells gI 31 (0,0))→w.heap.size < g→g≠p→((mU xs).1≠[]→q≠g)→∀ u',Kept (fun x=>x=g) u u'→u'.heap[g]? = some (.cells (bg (fv xs) 0 z32 (.slice none 0 0) 0 z32 z64 z64) 31 (0,0))→qU w u' (mU xs).1 g (bg (fv xs) 0 z32 (.slice none 0 0) 0 z32 z64 z64) (mU xs) p q :=
  fun u p q g hu hg h1 h2 h3 u' k hm=>qU.put (M:=gI) ⟨hu.i,hg,hu.c,hu.p1,h2,h1,hu.p2,h3,id,hu.b⟩ k hm
 have hw3:∀ ⦃g:Nat⦄ ⦃M:Array Value⦄ (u:World) (p q:Nat),qU w u (mU xs).1 g M (mU xs) p q→Calls Tryz.prog 41 #[.pointer (some ⟨p,0,none⟩)] u fun e w'=>e = .returned (.int .i64 (fb xs))∧qU w w' (mU xs).1 g M (Dx xs) p q:=by
  intro g M u p q hu
  refine (Bh p q (mU xs).1 (mU xs).2 u hu.cu (abD hml.2.1 hxl)).mono ?_
  rintro e w' ⟨rfl,hc,hk⟩
  exact ⟨rfl,hu.turn hk hc⟩
 have hw4:∀ ⦃g:Nat⦄ ⦃M:Array Value⦄ (u:World) (p q:Nat),qU w u (mU xs).1 g M (Dx xs) p q→Calls Tryz.prog 42 #[.pointer (some ⟨p,0,none⟩)] u fun e w'=>e = .returned (.agg (arr .u8 (tY xs)))∧qU w w' (mU xs).1 g M (yB xs) p q:=by
  intro g M u p q hu
  refine (Fy p q (Dx xs).1 (Dx xs).2 u hu.cu (abD hml.2.2.1 hxl)).mono ?_
  rintro e w' ⟨rfl,hc,hk⟩
  exact ⟨rfl,hu.turn hk hc⟩
 have Qm:∀ ⦃g:Nat⦄ ⦃M:Array Value⦄ (u:World) (p q:Nat),qU w u (mU xs).1 g M (yB xs) p q→Calls Tryz.prog 40 #[.pointer (some ⟨p,0,none⟩), .int .i64 80] u fun e w'=>∃ s c,e = .returned (.slice s (fws xs).length c)∧aU w' (max p g+1) (.slice s (fws xs).length c) (fws xs)∧qU w w' (mU xs).1 g M (Dw xs) p q:=by
  intro g M u p q hu
  refine (pX p q (yB xs).1 (yB xs).2 80 u hu.cu (abD hml.2.2.2.1 hxl)).mono ?_
  rintro e w' ⟨v,rfl,ho,hc,hk⟩
  obtain ⟨s,c,rfl, -⟩:=ho.form
  exact ⟨s,c,rfl,ho.mono (by have:=aV hu.m;have:=hu.cu.lt;omega),hu.turn hk hc⟩
 have Lr:∀ ⦃g:Nat⦄ ⦃M:Array Value⦄ (u:World) (p q:Nat),qU w u (mU xs).1 g M (Dw xs) p q→Calls Tryz.prog 41 #[.pointer (some ⟨p,0,none⟩)] u fun e w'=>e = .returned (.int .i64 (fi xs))∧qU w w' (mU xs).1 g M (Dv xs) p q∧Kept (· = p) u w':=by
  intro g M u p q hu
  refine (Bh p q (Dw xs).1 (Dw xs).2 u hu.cu (abD hml.2.2.2.2.1 hxl)).mono ?_
  rintro e w' ⟨rfl,hc,hk⟩
  exact ⟨rfl,hu.turn hk hc,hk⟩
 have hw7:∀ ⦃g:Nat⦄ ⦃M:Array Value⦄ (u:World) (p q:Nat),qU w u (mU xs).1 g M (Dv xs) p q→Calls Tryz.prog 42 #[.pointer (some ⟨p,0,none⟩)] u fun e w'=>e = .returned (.agg (arr .u8 (sF xs)))∧qU w w' (mU xs).1 g M (su xs) p q∧Kept (· = p) u w':=by
  intro g M u p q hu
  refine (Fy p q (Dv xs).1 (Dv xs).2 u hu.cu (abD hml.2.2.2.2.2.1 hxl)).mono ?_
  rintro e w' ⟨rfl,hc,hk⟩
  exact ⟨rfl,hu.turn hk hc,hk⟩
 have hw8:∀ ⦃g:Nat⦄ ⦃M:Array Value⦄ (u:World) (p q:Nat),qU w u (mU xs).1 g M (su xs) p q→Calls Tryz.prog 43 #[.pointer (some ⟨p,0,none⟩)] u fun e w'=>e = .returned (.agg (arr .u8 (sG xs)))∧qU w w' (mU xs).1 g M (tJ xs) p q∧Kept (· = p) u w':=by
  intro g M u p q hu
  refine (PG p q (su xs).1 (su xs).2 u hu.cu (abD hml.2.2.2.2.2.2.1 hxl)).mono ?_
  rintro e w' ⟨rfl,hc,hk⟩
  exact ⟨rfl,hu.turn hk hc,hk⟩
 have J9:∀ ⦃g:Nat⦄ ⦃M:Array Value⦄ (u:World) (p q:Nat),qU w u (mU xs).1 g M (tJ xs) p q→Calls Tryz.prog 43 #[.pointer (some ⟨p,0,none⟩)] u fun e w'=>e = .returned (.agg (arr .u8 (sD xs)))∧qU w w' (mU xs).1 g M (Tf xs) p q∧Kept (· = p) u w':=by
  intro g M u p q hu
  refine (PG p q (tJ xs).1 (tJ xs).2 u hu.cu (abD hml.2.2.2.2.2.2.2 hxl)).mono ?_
  rintro e w' ⟨rfl,hc,hk⟩
  exact ⟨rfl,hu.turn hk hc,hk⟩
 have Cz:∀ ⦃g:Nat⦄ ⦃M:Array Value⦄ (u:World) (p q:Nat),qU w u (mU xs).1 g M (Tf xs) p q→Calls Tryz.prog 44 #[.pointer (some ⟨p,0,none⟩)] u fun e w'=>e = .returned (.bool (fE xs))∧u=w':=fun _ _ u p q hu=>ZQ p q _ _ u hu.cu
 have hq:((strOfNums (fH xs)).toList == [80,67,77,49])=decide (fH xs=[80,67,77,49]):=by
  have h1:=Sm.str_eq (fH xs) [80,67,77,49] (Dk hx _ _).1 (by unfold bytes;decide)
  rwa [VP,QO] at h1
 have hlr:(tY xs).length=32:=fq _ _ _
 have hlk:(sF xs).length=32:=fq _ _ _
 have Qv:(sG xs).length=64:=fq _ _ _
 have hls:(sD xs).length=64:=fq _ _ _
 have qO:=fun (s:Option Addr) (c:Nat) (u:World)=>tK (ks:=sF xs) (gs:=sG xs) (ss:=sD xs) (fv xs) (fb xs) (fi xs) s (fws xs).length c u hlr
 have hs0:=hs.below ((Below.refl _ w).alloc (abF _) (.cells gI 31))
 unfold F5
 generalize Cv xs=C1 at hw1 hw2
 generalize mU xs=C2 at hw2 hw3 hw4 Qm Lr hw7 hw8 J9 Cz hmk
 generalize Dx xs=C3 at hw3 hw4
 generalize yB xs=C4 at hw4 Qm
 generalize Dw xs=C5 at Qm Lr
 generalize Dv xs=C6 at Lr hw7
 generalize su xs=C7 at hw7 hw8
 generalize tJ xs=C8 at hw8 J9
 generalize Tf xs=C9 at J9 Cz
 generalize fv xs=fV at hw2 hmk qO ⊢
 generalize fb xs=fB at hw3 qO ⊢
 generalize tY xs=fR at hw4 qO hlr ⊢
 generalize fws xs=fW at Qm qO ⊢
 generalize fi xs=fI at Lr qO ⊢
 generalize sF xs=fK at hw7 qO hlk ⊢
 generalize sG xs=fG at hw8 qO Qv ⊢
 generalize sD xs=fS at J9 qO hls ⊢
 generalize fE xs=fE_ at Cz ⊢
 generalize fH xs=fH_ at hw1 hq ⊢
 generalize fW.length=nW at Qm qO ⊢
 obtain ⟨SH,hSH⟩:∃ x,x=strOfNums fH_:=⟨_,rfl⟩
 rw [← hSH] at hw1 hq
 obtain ⟨mz,hmz⟩:∃ m,m=gI:=⟨_,rfl⟩
 have U2:Hid (gI=mz):=abC hmz.symm
 have UD:Hid (mz.size=196):=abC (by rw [hmz];exact bL rfl rfl rfl rfl)
 have NV:Hid (mz.all (·.oneCell')=true):=abC (by rw [hmz];exact gH rfl)
 have yK:Hid ((Tryz.prog.info? 31).map (·.size)=some mz.size):=abC (by rw [UD.out];exact dU)
 have HZ:Hid (∀ w,(zeroValue 31).run Tryz.prog w = .ok (.agg mz) w):=abC (by rw [hmz];exact jS)
 have HZ0:Hid (∀ w,(Instr.build 31 #[]).run Tryz.prog w = .ok (.agg mz) w):=abC (by rw [hmz];exact rJ)
 have HBV:=abC (Nz fV)
 have qK:Hid (Below w.heap.size w (w.alloc (.cells mz 31))):=abC ((Below.refl _ w).alloc (abF _) _)
 have HI0:Hid ((w.alloc (.cells mz 31)).heap[w.heap.size]? = some (.cells mz 31 (0,0))):=abC (aH w _)
 rw [← hmz] at hw1 hw2 hmk hs0 ⊢
 have hv0:(bg fV 0 z32 (.slice none 0 0) 0 z32 z64 z64).size=196:=bL rfl rfl rfl rfl
 have Bv:Hid ((bg fV 0 z32 (.slice none 0 0) 0 z32 z64 z64).size=mz.size):=abC (by rw [hv0,UD.out])
 have HVI:Hid ((Tryz.prog.info? 31).map (·.size)=some (bg fV 0 z32 (.slice none 0 0) 0 z32 z64 z64).size):=abC (by rw [hv0];exact dU)
 have HVO:Hid ((bg fV 0 z32 (.slice none 0 0) 0 z32 z64 z64).all (·.oneCell')=true):=abC (gH rfl)
 have Ej:Hid (((bg fV fB z32 (.slice none 0 0) 0 z32 z64 z64).toList.take 2 ++ (arr .u8 fR).toList ++ (bg fV fB z32 (.slice none 0 0) 0 z32 z64 z64).toList.drop (2+(arr .u8 fR).size)).toArray=bg fV fB fR (.slice none 0 0) 0 z32 z64 z64):=abC (Dz rfl hlr)
 have Am:Hid (2+(arr .u8 fR).size≤(bg fV fB z32 (.slice none 0 0) 0 z32 z64 z64).size):=abC (by rw [aD,hlr,bL rfl rfl rfl rfl];omega)
 have Oi:Hid (∀ wv,((bg fV fB fR wv fI z32 z64 z64).toList.take 36 ++ (arr .u8 fK).toList ++ (bg fV fB fR wv fI z32 z64 z64).toList.drop (36+(arr .u8 fK).size)).toArray=bg fV fB fR wv fI fK z64 z64):=abC (fun wv=>zY hlr rfl hlk)
 have rQ:Hid (∀ wv,36+(arr .u8 fK).size≤(bg fV fB fR wv fI z32 z64 z64).size):=abC (fun wv=>by rw [aD,hlk,bL hlr rfl rfl rfl];omega)
 have Oh:Hid (∀ wv,((bg fV fB fR wv fI fK z64 z64).toList.take 68 ++ (arr .u8 fG).toList ++ (bg fV fB fR wv fI fK z64 z64).toList.drop (68+(arr .u8 fG).size)).toArray=bg fV fB fR wv fI fK fG z64):=abC (fun wv=>zX hlr hlk rfl Qv)
 have Ob:Hid (∀ wv,68+(arr .u8 fG).size≤(bg fV fB fR wv fI fK z64 z64).size):=abC (fun wv=>by rw [aD,Qv,bL hlr hlk rfl rfl];omega)
 have BF:Hid (∀ wv,((bg fV fB fR wv fI fK fG z64).toList.take 132 ++ (arr .u8 fS).toList ++ (bg fV fB fR wv fI fK fG z64).toList.drop (132+(arr .u8 fS).size)).toArray=bg fV fB fR wv fI fK fG fS):=abC (fun wv=>o9 hlr hlk Qv rfl hls)
 have Gn:Hid (∀ wv,132+(arr .u8 fS).size≤(bg fV fB fR wv fI fK fG z64).size):=abC (fun wv=>by rw [aD,hls,bL hlr hlk Qv rfl];omega)
 have HCN:=abC hcn
 have HW1:=abC hw1
 have HW2:=abC hw2
 have HMK:=abC hmk
 have HW3:=abC hw3
 have HW4:=abC hw4
 have HW5:=abC Qm
 have UF:=abC Lr
 have HW7:=abC hw7
 have HW8:=abC hw8
 have Ak:=abC J9
 have Bu:=abC Cz
 have Ib:=abC hlr
 have HLK:=abC hlk
 have HLG:=abC Qv
 have HLS:=abC hls
 have HS:=abC hs0
 clear hs hx hn hxl hml hcn hw1 hw2 hmk hw3 hw4 Qm Lr hw7 hw8 J9 Cz hlr hlk Qv hls hs0 hmz hv0 hSH
 obtain ⟨D,hD⟩:∃ d,d=decide (fH_=[80,67,77,49]):=⟨_,rfl⟩
 rw [← hD] at hq ⊢
 clear hD
 have HMY0:=abC qO
 have HQ0:=abC hq
 clear qO hq
 go_enter Tryz.func11, Tryz.ntmps11
 go_upto_region 1 with ((with_reducible refine aS 2 ?_);refine ah rfl 31 rfl _ (HZ.out _) ?_)
 generalize w.alloc (.cells mz 31)=wb at qK HI0 HS ⊢
 go_upto_region 2 with (go_at_call 39; refine (HCN.out _ HS.out).mono ?_;rintro e w1 ⟨p,q,rfl,hc1,hp1,hq1,hb1⟩;have HR1:Hid (U5 w w1 w.heap.size mz 31 xs false p q):=abC ⟨Below.blk hb1 HI0.out (aV HI0.out),hc1,(by have:=aV HI0.out;omega),(by have:=aV HI0.out;omega),qK.out.trans (hb1.mono qK.out.size)⟩;clear hc1 hp1 hq1 hb1)
 go_upto_region 3 with (go_at_call 40; refine (HW1.out _ _ _ HR1.out).mono ?_;rintro e w2 ⟨v2,rfl,hv2,hr2⟩;have HR2:=abC hr2;clear hr2)
 clear hv2
 go_upto_region 4 with (first|(go_at_call 41; refine (HW2.out _ _ _ HR2.out).mono ?_;rintro e w3 ⟨rfl,hr3⟩;have HR3:=abC hr3;clear hr3)|((with_reducible refine aS 14 ?_);refine wpList_build (by rfl) 31 _ rfl #[(0, .int .i64 fV)] rfl _ (HBV.out _) ?_)|((with_reducible refine aS 6 ?_);refine ah rfl 31 rfl _ (HZ.out _) ?_;have HR4:=abC (HR3.out.fresh ((Below.refl _ w3).alloc (abF _) (.cells mz 31)));have HI4:Hid ((w3.alloc (.cells mz 31)).heap[w3.heap.size]? = some (.cells mz 31 (0,0))):=abC (aH w3 _);have Cn:Hid (w.heap.size < w3.heap.size∧w3.heap.size≠p∧(C2.1≠[]→q≠w3.heap.size)):=abC ⟨aV HR3.out.i,(by have:=HR3.out.c.lt;omega),fun hz=>by have:=HR3.out.c.qlt hz;omega⟩;generalize w3.heap.size=g6 at HI4 Cn ⊢; generalize w3.alloc (.cells mz 31)=w4 at HR4 HI4 ⊢)|((with_reducible refine aT 6 ?_);refine au rfl 31 _ _ rfl (g6) _ _ 31 HI4.out rfl rfl Bv.out HVI.out HVO.out ?_;intro w5 hb5 hk5 hz5;have Ei:=abC (HMK.out _ _ _ _ HR4.out HI4.out Cn.out.1 Cn.out.2.1 Cn.out.2.2 _ hk5 hb5);clear hb5 hk5 hz5))
 (try simp only [World.size_alloc,Act.put,sA,sZ,sS])
 clear HR1 HR2 HR3 HR4 HI4 Cn
 have hfr:∀ u:World,qU w u C2.1 g6 (bg fV 0 z32 (.slice none 0 0) 0 z32 z64 z64) C3 p q→u.cell? ⟨g6,1,none⟩=some (.int .i64 0)∧u.frozen? ⟨g6,1,none⟩=false:=fun u h=>⟨by rw [aF h.m];exact pq,aC h.m 1⟩
 have Er:=abC hfr
 clear hfr
 go_upto_region 5 with (go_at_call 41; refine (HW3.out _ _ _ Ei.out).mono ?_;rintro e w6 ⟨rfl,hr⟩;have Od:=abC hr;obtain ⟨Ul,D6⟩:=Er.out _ hr;clear hr)
 obtain ⟨w7,hw⟩:∃ x,x=w6.setCell ⟨g6,1,none⟩ (.int .i64 fB):=⟨_,rfl⟩
 rw [← hw]
 have Eh:=abC (Od.out.set 1 (.int .i64 fB))
 rw [Dy,← hw] at Eh
 clear hw Ul D6 Er Ei Od
 go_upto_region 6 with (first|(go_at_call 42; refine (HW4.out _ _ _ Eh.out).mono ?_;rintro e w8 ⟨rfl,hr⟩;have BA:=abC hr;clear hr)|((with_reducible refine aT 20 ?_);refine dD rfl 25 _ _ rfl g6 2 _ (arr .u8 fR) 31 BA.out.m rfl rfl Am.out (Sl.bG Ib.out) (ak _ _) ?_;intro w9 hb hk hz;rw [Ej.out] at hb;have UM:=abC (BA.out.put hk hb);clear hb hk hz))
 clear Eh BA
 have hfr:∀ u:World,qU w u C2.1 g6 (bg fV fB fR (.slice none 0 0) 0 z32 z64 z64) C5 p q→u.cell? ⟨g6,34,none⟩=some (.slice none 0 0)∧u.frozen? ⟨g6,34,none⟩=false:=fun u h=>⟨by rw [aF h.m];exact lT Ib.out,aC h.m 34⟩
 have Er:=abC hfr
 clear hfr
 go_upto_region 7 with (go_at_call 40; refine (HW5.out _ _ _ UM.out).mono ?_;rintro e w10 ⟨s10,c10,rfl,ho,hr⟩;have BD:=abC hr;have EU:=abC ho;obtain ⟨Ul,D6⟩:=Er.out _ hr;clear hr ho)
 obtain ⟨w11,hw⟩:∃ x,x=w10.setCell ⟨g6,34,none⟩ (.slice s10 nW c10):=⟨_,rfl⟩
 rw [← hw]
 have Gq:=abC (BD.out.set 34 (.slice s10 nW c10))
 rw [rA Ib.out,← hw] at Gq
 have HO11:Hid (aU w11 (max p g6+1) (.slice s10 nW c10) fW):=abC (by rw [hw];exact (EU.out).kept (T:=fun x=>x=g6) ((Kept.refl _ _).at _ _) (fun k e he=>by have:=EU.out.lt k e;omega))
 clear hw Ul D6 Er UM BD EU
 have hfr:∀ u:World,qU w u C2.1 g6 (bg fV fB fR (.slice s10 nW c10) 0 z32 z64 z64) C6 p q→u.cell? ⟨g6,35,none⟩=some (.int .i64 0)∧u.frozen? ⟨g6,35,none⟩=false:=fun u h=>⟨by rw [aF h.m];exact tL Ib.out,aC h.m 35⟩
 have Er:=abC hfr
 clear hfr
 go_upto_region 8 with (go_at_call 41; refine (UF.out _ _ _ Gq.out).mono ?_;rintro e w12 ⟨rfl,hr,hk⟩;have rR:=abC hr;have HO12:=abC (HO11.out.kept hk (fun k e he=>by have:=HO11.out.lt k e;omega));obtain ⟨Ul,D6⟩:=Er.out _ hr;clear hr hk)
 obtain ⟨w13,hw⟩:∃ x,x=w12.setCell ⟨g6,35,none⟩ (.int .i64 fI):=⟨_,rfl⟩
 rw [← hw]
 have oq:=abC (rR.out.set 35 (.int .i64 fI))
 rw [zW Ib.out,← hw] at oq
 have HO13:Hid (aU w13 (max p g6+1) (.slice s10 nW c10) fW):=abC (by rw [hw];exact (HO12.out).kept (T:=fun x=>x=g6) ((Kept.refl _ _).at _ _) (fun k e he=>by have:=HO12.out.lt k e;omega))
 clear hw Ul D6 Er Gq rR HO11 HO12
 have Oi:=abC (Oi.out (.slice s10 nW c10))
 have Oh:=abC (Oh.out (.slice s10 nW c10))
 have BF:=abC (BF.out (.slice s10 nW c10))
 have rQ:=abC (rQ.out (.slice s10 nW c10))
 have Ob:=abC (Ob.out (.slice s10 nW c10))
 have Gn:=abC (Gn.out (.slice s10 nW c10))
 go_upto_region 9 with (first|(go_at_call 42; refine (HW7.out _ _ _ oq.out).mono ?_;rintro e w14 ⟨rfl,hr,hk⟩;have HR14:=abC hr;have HO14:=abC (HO13.out.kept hk (fun k e he=>by have:=HO13.out.lt k e;omega));clear hr hk)|((with_reducible refine aT 31 ?_);refine dD rfl 25 _ _ rfl g6 36 _ (arr .u8 fK) 31 HR14.out.m rfl rfl rQ.out (Sl.bG HLK.out) (ak _ _) ?_;intro w15 hb hk hz;rw [Oi.out] at hb;have HR15:=abC (HR14.out.put hk hb);have HO15:=abC (HO14.out.kept hk (fun k e he=>by have:=HO14.out.lt k e;omega));clear hb hk hz))
 clear oq HR14 HO13 HO14
 go_upto_region 10 with (first|(go_at_call 43; refine (HW8.out _ _ _ HR15.out).mono ?_;rintro e w16 ⟨rfl,hr,hk⟩;have HR16:=abC hr;have HO16:=abC (HO15.out.kept hk (fun k e he=>by have:=HO15.out.lt k e;omega));clear hr hk)|((with_reducible refine aT 35 ?_);refine dD rfl 27 _ _ rfl g6 68 _ (arr .u8 fG) 31 HR16.out.m rfl rfl Ob.out (Sl.sU HLG.out) (ak _ _) ?_;intro w17 hb hk hz;rw [Oh.out] at hb;have HR17:=abC (HR16.out.put hk hb);have HO17:=abC (HO16.out.kept hk (fun k e he=>by have:=HO16.out.lt k e;omega));clear hb hk hz))
 clear HR15 HR16 HO15 HO16
 go_upto_region 11 with (first|(go_at_call 43; refine (Ak.out _ _ _ HR17.out).mono ?_;rintro e w18 ⟨rfl,hr,hk⟩;have HR18:=abC hr;have HO18:=abC (HO17.out.kept hk (fun k e he=>by have:=HO17.out.lt k e;omega));clear hr hk)|((with_reducible refine aT 38 ?_);refine dD rfl 27 _ _ rfl g6 132 _ (arr .u8 fS) 31 HR18.out.m rfl rfl Gn.out (Sl.sU HLS.out) (ak _ _) ?_;intro w19 hb hk hz;rw [BF.out] at hb;have lJ:=abC (HR18.out.put hk hb);have JX:=abC (HO18.out.kept hk (fun k e he=>by have:=HO18.out.lt k e;omega));clear hb hk hz))
 clear HR17 HR18 HO17 HO18
 have qO:=HMY0.out
 have hq:=HQ0.out
 clear HMY0 HQ0
 cases fE_ with
 | false =>
  have HMY:=abC qO
  have vX:Hid ((false && D && iA fV fB nW fI)=false):=abC rfl
  clear qO
  have yP:Hid ((Tryz.prog.info? 31).map (·.size)=some (bg fV fB fR (.slice s10 nW c10) fI fK fG fS).size):=abC (by rw [bL Ib.out HLK.out HLG.out HLS.out];exact dU)
  have BG:=abC (HMY.out s10 c10)
  obtain ⟨FM,F3⟩:∃ M,M=bg fV fB fR (.slice s10 nW c10) fI fK fG fS:=⟨_,rfl⟩
  have Rk:=abC F3
  rw [← F3] at lJ yP BG
  clear F3
  go_wp2_with (first|((with_reducible show Calls _ 44 _ _ _);go_at_call 44; refine (Bu.out _ _ _ lJ.out).mono ?_;rintro e w20 ⟨rfl,rfl⟩)|((with_reducible refine aS 47 ?_);refine dI (by rfl) 31 _ rfl g6 rfl 31 _ (0,0) _ lJ.out.m Tryz.underlying31 rfl yP.out ?_)|((with_reducible show Calls _ 45 _ _ _);go_at_call 45; refine (BG.out _).mono ?_;rintro e w21 ⟨rfl,hb⟩;have xU:=abC (lJ.out.fresh hb);have Aw:=abC (JX.out.below hb);clear hb)|((with_reducible refine aS 51 ?_);refine wpList_build (by rfl) 31 _ rfl #[] rfl _ (HZ0.out _) ?_)|((with_reducible refine aT 2 ?_);refine au rfl 31 _ _ rfl (w.heap.size) _ _ 31 (by have h:=lJ.out.i;rw [U2.out] at h;exact h) rfl rfl rfl yK.out NV.out ?_;intro w22 lu lq rD;have rX:=abC lu;have eT:=abC lq;clear lu lq rD))
  all_goals (try simp only [Exit.then])
  refine bodyPost_ret (aN rfl _ _ (w.heap.size) 31 _ (0,0) _ _ rfl rX.out Tryz.underlying31 rfl yK.out rfl) rfl ?_
  exact ⟨_,_,rfl, .inr ⟨vX.out,rfl,rfl⟩,lJ.out.b.trans ⟨eT.out.os,eT.out.tape,eT.out.output,eT.out.size,fun i hi=>eT.out.block i (abE hi lJ.out.b.size) (by omega)⟩⟩
 | true =>
  cases D with
  | false =>
   have HMY:=abC qO
   have vX:Hid ((true && false && iA fV fB nW fI)=false):=abC rfl
   clear qO
   have yP:Hid ((Tryz.prog.info? 31).map (·.size)=some (bg fV fB fR (.slice s10 nW c10) fI fK fG fS).size):=abC (by rw [bL Ib.out HLK.out HLG.out HLS.out];exact dU)
   have BG:=abC (HMY.out s10 c10)
   obtain ⟨FM,F3⟩:∃ M,M=bg fV fB fR (.slice s10 nW c10) fI fK fG fS:=⟨_,rfl⟩
   have Rk:=abC F3
   rw [← F3] at lJ yP BG
   clear F3
   go_wp2_with (first|((with_reducible show Calls _ 44 _ _ _);go_at_call 44; refine (Bu.out _ _ _ lJ.out).mono ?_;rintro e w20 ⟨rfl,rfl⟩)|((with_reducible refine aS 47 ?_);refine dI (by rfl) 31 _ rfl g6 rfl 31 _ (0,0) _ lJ.out.m Tryz.underlying31 rfl yP.out ?_)|((with_reducible show Calls _ 45 _ _ _);go_at_call 45; refine (BG.out _).mono ?_;rintro e w21 ⟨rfl,hb⟩;have xU:=abC (lJ.out.fresh hb);have Aw:=abC (JX.out.below hb);clear hb)|((with_reducible refine aS 51 ?_);refine wpList_build (by rfl) 31 _ rfl #[] rfl _ (HZ0.out _) ?_)|((with_reducible refine aT 2 ?_);refine au rfl 31 _ _ rfl (w.heap.size) _ _ 31 (by have h:=lJ.out.i;rw [U2.out] at h;exact h) rfl rfl rfl yK.out NV.out ?_;intro w22 lu lq rD;have rX:=abC lu;have eT:=abC lq;clear lu lq rD))
   all_goals (try simp only [Exit.then])
   refine bodyPost_ret (aN rfl _ _ (w.heap.size) 31 _ (0,0) _ _ rfl rX.out Tryz.underlying31 rfl yK.out rfl) rfl ?_
   exact ⟨_,_,rfl, .inr ⟨vX.out,rfl,rfl⟩,lJ.out.b.trans ⟨eT.out.os,eT.out.tape,eT.out.output,eT.out.size,fun i hi=>eT.out.block i (abE hi lJ.out.b.size) (by omega)⟩⟩
  | true =>
   cases hok:iA fV fB nW fI with
   | false =>
    have vX:Hid ((true && true && iA fV fB nW fI)=false):=abC (by rw [hok];rfl)
    rw [hok] at qO
    have HMY:=abC qO
    clear qO hok
    have yP:Hid ((Tryz.prog.info? 31).map (·.size)=some (bg fV fB fR (.slice s10 nW c10) fI fK fG fS).size):=abC (by rw [bL Ib.out HLK.out HLG.out HLS.out];exact dU)
    have BG:=abC (HMY.out s10 c10)
    obtain ⟨FM,F3⟩:∃ M,M=bg fV fB fR (.slice s10 nW c10) fI fK fG fS:=⟨_,rfl⟩
    have Rk:=abC F3
    rw [← F3] at lJ yP BG
    clear F3
    go_wp2_with (first|((with_reducible show Calls _ 44 _ _ _);go_at_call 44; refine (Bu.out _ _ _ lJ.out).mono ?_;rintro e w20 ⟨rfl,rfl⟩)|((with_reducible refine aS 47 ?_);refine dI (by rfl) 31 _ rfl g6 rfl 31 _ (0,0) _ lJ.out.m Tryz.underlying31 rfl yP.out ?_)|((with_reducible show Calls _ 45 _ _ _);go_at_call 45; refine (BG.out _).mono ?_;rintro e w21 ⟨rfl,hb⟩;have xU:=abC (lJ.out.fresh hb);have Aw:=abC (JX.out.below hb);clear hb)|((with_reducible refine aS 51 ?_);refine wpList_build (by rfl) 31 _ rfl #[] rfl _ (HZ0.out _) ?_)|((with_reducible refine aT 2 ?_);refine au rfl 31 _ _ rfl (w.heap.size) _ _ 31 (by have h:=xU.out.i;rw [U2.out] at h;exact h) rfl rfl rfl yK.out NV.out ?_;intro w22 lu lq rD;have rX:=abC lu;have eT:=abC lq;clear lu lq rD))
    all_goals (try simp only [Exit.then])
    refine bodyPost_ret (aN rfl _ _ (w.heap.size) 31 _ (0,0) _ _ rfl rX.out Tryz.underlying31 rfl yK.out rfl) rfl ?_
    exact ⟨_,_,rfl, .inr ⟨vX.out,rfl,rfl⟩,xU.out.b.trans ⟨eT.out.os,eT.out.tape,eT.out.output,eT.out.size,fun i hi=>eT.out.block i (abE hi xU.out.b.size) (by omega)⟩⟩
   | true =>
    have vX:Hid ((true && true && iA fV fB nW fI)=true):=abC (by rw [hok];rfl)
    rw [hok] at qO
    have HMY:=abC qO
    clear qO hok
    have yP:Hid ((Tryz.prog.info? 31).map (·.size)=some (bg fV fB fR (.slice s10 nW c10) fI fK fG fS).size):=abC (by rw [bL Ib.out HLK.out HLG.out HLS.out];exact dU)
    have BG:=abC (HMY.out s10 c10)
    obtain ⟨FM,F3⟩:∃ M,M=bg fV fB fR (.slice s10 nW c10) fI fK fG fS:=⟨_,rfl⟩
    have Rk:=abC F3
    rw [← F3] at lJ yP BG
    clear F3
    go_wp2_with (first|((with_reducible show Calls _ 44 _ _ _);go_at_call 44; refine (Bu.out _ _ _ lJ.out).mono ?_;rintro e w20 ⟨rfl,rfl⟩)|((with_reducible refine aS 47 ?_);refine dI (by rfl) 31 _ rfl g6 rfl 31 _ (0,0) _ lJ.out.m Tryz.underlying31 rfl yP.out ?_)|((with_reducible show Calls _ 45 _ _ _);go_at_call 45; refine (BG.out _).mono ?_;rintro e w21 ⟨rfl,hb⟩;have xU:=abC (lJ.out.fresh hb);have Aw:=abC (JX.out.below hb);clear hb)|((with_reducible refine aS 52 ?_);refine wpList_load_row rfl 31 _ rfl g6 rfl 31 _ (0,0) _ xU.out.m Tryz.underlying31 rfl yP.out ?_)|((with_reducible refine aT 2 ?_);refine au rfl 31 _ _ rfl (w.heap.size) _ _ 31 (by have h:=xU.out.i;rw [U2.out] at h;exact h) rfl rfl (by rw [Rk.out,bL Ib.out HLK.out HLG.out HLS.out,UD.out]) yP.out (by rw [Rk.out];exact gH rfl) ?_;intro w22 lu lq rD;have rX:=abC lu;have eT:=abC lq;clear lu lq rD))
    all_goals (try simp only [Exit.then])
    refine bodyPost_ret (aN rfl _ _ (w.heap.size) 31 _ (0,0) _ _ rfl rX.out Tryz.underlying31 rfl yP.out rfl) rfl ?_
    exact ⟨_,_,rfl, .inl ⟨vX.out,rfl,s10,c10,Rk.out,(Aw.out.kept eT.out (fun k e he=>by have:=Aw.out.lt k e;have:=xU.out.n3;omega)).mono (by have:=xU.out.n3;omega)⟩,xU.out.b.trans ⟨eT.out.os,eT.out.tape,eT.out.output,eT.out.size,fun i hi=>eT.out.block i (abE hi xU.out.b.size) (by omega)⟩⟩
end Go.Proofs.YthdgbgleklkaiaaGreatDoor.Mf
