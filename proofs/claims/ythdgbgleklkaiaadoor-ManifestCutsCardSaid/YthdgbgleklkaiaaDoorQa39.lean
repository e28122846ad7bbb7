/- The document's LadderPublic, Shared: The document's Wrap. Condition: as each theorem says. -/

import Derived.Test.YthdgbgleklkaiaaDoorQa29
import Derived.Test.YthdgbgleklkaiaaDoorQa31
import Derived.Test.YthdgbgleklkaiaaDoorQa37
import Derived.Test.YthdgbgleklkaiaaDoorQa38
set_option linter.unusedSimpArgs false
set_option linter.unusedVariables false
set_option maxRecDepth 100000
set_option maxHeartbeats 16000000
namespace Go.Proofs.YthdgbgleklkaiaaDoor.Rd
open Go.RowKit Lm Fp Cu
theorem Il (w:World):(Instr.build 23 #[]).run Tryd.prog w = .ok (.agg (arr .u8 (List.replicate 32 0))) w:=by kernel_rfl
theorem Qd:(List.replicate 32 0:List Int)=aW (bD 256 32 0):=by decide +kernel
theorem LM {a b:Nat} (ha:a < 256 ^ 32) (hb:b < 256 ^ 32):(aW (bD 256 32 a) == aW (bD 256 32 b))=decide (a=b):=by
 by_cases e:a=b
 ·subst e;simp
 ·rw [decide_eq_false e,beq_eq_false_iff_ne]
  intro h
  have h3:bD 256 32 a=bD 256 32 b:=by
   have:=congrArg (List.map Int.toNat) h
   have e:∀ l:List Nat,(aW l).map Int.toNat=l:=fun l=>by rw [aW,List.map_map];exact List.map_id l
   rwa [e,e] at this
  have h4:=congrArg (val 256) h3
  rw [yt a ha,yt b hb] at h4
  exact e h4
theorem U3:(List.replicate 32 (0:Int)).set 0 9=aW (bD 256 32 9):=by decide +kernel
theorem GY (k:Nat) (w:World) (hk:k < 2 ^ 256) :
  Calls Tryd.prog 36 #[.agg (arr .u8 (aW (bD 256 32 k)))] w fun e w'=>e = .returned (.agg (arr .u8 (aW (bD 256 32 (bV k 9)))))∧Below w.heap.size w w':=by
 have hl:=fun w=>zy k 9 w hk (by decide)
 obtain ⟨ks,hks⟩:∃ x,x=aW (bD 256 32 k):=⟨_,rfl⟩
 have l9:Hid (ks.length=32):=Lib.hid (by rw [hks,aH,aI])
 obtain ⟨us,OW⟩:∃ x,x=aW (bD 256 32 9):=⟨_,rfl⟩
 have Jd:Hid (us.length=32):=Lib.hid (by rw [OW,aH,aI])
 obtain ⟨rs,hrs⟩:∃ x,x=aW (bD 256 32 (bV k 9)):=⟨_,rfl⟩
 have iK:Hid (rs.length=32):=Lib.hid (by rw [hrs,aH,aI])
 rw [← hks,← OW,← hrs] at hl
 rw [← hks,← hrs]
 have HL:=Lib.hid hl
 obtain ⟨zn,hzn⟩:∃ zs:List Int,zs=List.replicate 32 0:=⟨_,rfl⟩
 have dx:Hid (∀ w,(zeroValue 23).run Tryd.prog w = .ok (.agg (arr .u8 zn)) w):=Lib.hid (by intro w;rw [hzn];exact zero_num w)
 have cB:Hid (zn.length=32):=Lib.hid (by rw [hzn];rfl)
 have HN9:Hid (zn.set 0 9=us):=Lib.hid (by rw [hzn,OW];exact U3)
 have bN:=Lib.hid (bM.two w (arr .u8 ks) (arr .u8 zn) 23 23)
 clear hzn hl hks OW hrs
 go_enter Tryd.func36, Tryd.ntmps36
 go_upto_region 1 with (first|((with_reducible refine aS 2 ?_);refine aj rfl 23 rfl _ (dx.out _) ?_))
 (try simp only [World.size_alloc,Act.put,sA,sZ,sS])
 generalize ((w.alloc (.cells (arr .u8 ks) 23)).alloc (.cells (arr .u8 zn) 23))=wb at bN ⊢
 go_upto_region 2 with (first|((with_reducible refine aS 3 ?_);refine aj rfl 23 rfl _ (dx.out _) ?_;have gY:=Lib.hid (bN.out.alloc (arr .u8 zn) 23);generalize wb.heap.size=g3 at gY ⊢; generalize wb.alloc (.cells (arr .u8 zn) 23)=w1 at gY ⊢))
 have q0:=aN (gY.out.get 2 rfl) 0 (by rw [cB.out];decide)
 have q1:=aC (gY.out.get 2 rfl) 0
 have hb1:=gY.out.cell 2 rfl 0 (.int .u8 9)
 have e2:(arr .u8 zn).setIfInBounds 0 (.int .u8 9)=arr .u8 us:=by rw [aY,HN9.out]
 have HS2:=Lib.hid (hb1.cast (l':=[(w.heap.size,arr .u8 ks, 23),(w.heap.size+1,arr .u8 zn, 23),(g3,arr .u8 us, 23)]) (by rw [← e2];rfl))
 clear hb1 e2
 go_wp2_with (first|((with_reducible refine aS 5 ?_);refine ak rfl 23 _ rfl (w.heap.size) 0 _ 23 (0,0) _ (HS2.out.get 0 rfl) rfl .u8 ks (au _ _) Tryd.underlying23 rfl (bU l9.out) ?_)|((with_reducible refine aS 6 ?_);refine ak rfl 23 _ rfl (g3) 0 _ 23 (0,0) _ (HS2.out.get 2 rfl) rfl .u8 us (au _ _) Tryd.underlying23 rfl (bU Jd.out) ?_)|((with_reducible show Calls _ 55 _ _ _);go_at_call 55; refine (HL.out _).mono ?_;rintro e w6 ⟨rfl,hb6⟩;have kQ:=Lib.hid (HS2.out.kept hb6);clear hb6)|((with_reducible refine aT 2 ?_);refine ah rfl 23 _ _ rfl (w.heap.size+1) _ _ 23 (kQ.out.get 1 rfl) rfl rfl (ay _ _ iK.out cB.out) (bE iK.out) (av _ _) ?_;intro w7 dV iA kZ;have eX:=Lib.hid (kQ.out.put 1 rfl iA dV);clear dV iA kZ))
 (try simp only [Exit.then])
 refine bodyPost_ret (results_cell_row rfl _ _ (w.heap.size+1) 23 _ (0,0) _ rfl (eX.out.get 1 rfl) Tryd.underlying23 rfl (bE iK.out)) rfl ?_
 exact ⟨rfl,eX.out.below⟩
theorem Jz (k u:Nat) (w:World) (hk:k < 2 ^ 256) (hu:u < 2 ^ 256) :
  Calls Tryd.prog 52 #[.agg (arr .u8 (aW (bD 256 32 k))), .agg (arr .u8 (aW (bD 256 32 u)))] w fun e w'=>e = .returned (.tuple #[.agg (arr .u8 (aW (bD 256 32 (bV k u)))), .int .i64 (if bV k u=0 then 21 else 0)])∧Below w.heap.size w w':=by
 have hl:=fun w=>zy k u w hk hu
 have hz:=LM (Nat.lt_trans (uO k u) JO) (show 0 < 256 ^ 32 by decide)
 obtain ⟨ks,hks⟩:∃ x,x=aW (bD 256 32 k):=⟨_,rfl⟩
 have l9:Hid (ks.length=32):=Lib.hid (by rw [hks,aH,aI])
 obtain ⟨us,OW⟩:∃ x,x=aW (bD 256 32 u):=⟨_,rfl⟩
 have Jd:Hid (us.length=32):=Lib.hid (by rw [OW,aH,aI])
 obtain ⟨rs,hrs⟩:∃ x,x=aW (bD 256 32 (bV k u)):=⟨_,rfl⟩
 have iK:Hid (rs.length=32):=Lib.hid (by rw [hrs,aH,aI])
 rw [← hks,← OW,← hrs] at hl
 rw [← hrs] at hz
 rw [← hks,← OW,← hrs]
 obtain ⟨zn,hzn⟩:∃ zs:List Int,zs=List.replicate 32 0:=⟨_,rfl⟩
 have dx:Hid (∀ w,(zeroValue 23).run Tryd.prog w = .ok (.agg (arr .u8 zn)) w):=Lib.hid (by intro w;rw [hzn];exact zero_num w)
 have cB:Hid (zn.length=32):=Lib.hid (by rw [hzn];rfl)
 rw [← Qd,← hzn] at hz
 have HL:=Lib.hid hl
 have HZ:=Lib.hid hz
 have HBN:Hid (∀ w,(Instr.build 23 #[]).run Tryd.prog w = .ok (.agg (arr .u8 zn)) w):=Lib.hid (by intro w;rw [hzn];exact Il w)
 have bN:=Lib.hid (bM.three w (arr .u8 ks) (arr .u8 us) (arr .u8 zn) 23 23 23)
 obtain ⟨er,her⟩:∃ e:Int,e=(if bV k u=0 then 21 else 0):=⟨_,rfl⟩
 have HER:=Lib.hid her
 rw [← her]
 clear hzn hl hz hks OW hrs her
 go_enter Tryd.func52, Tryd.ntmps52
 go_upto_region 1 with (first|((with_reducible refine aS 4 ?_);refine aj rfl 23 rfl _ (dx.out _) ?_))
 (try simp only [World.size_alloc,Act.put,sA,sZ,sS])
 generalize (((w.alloc (.cells (arr .u8 ks) 23)).alloc (.cells (arr .u8 us) 23)).alloc (.cells (arr .u8 zn) 23))=wb at bN ⊢
 go_upto_region 2 with (first|((with_reducible refine aS 7 ?_);refine ak rfl 23 _ rfl (w.heap.size) 0 _ 23 (0,0) _ (bN.out.get 0 rfl) rfl .u8 ks (au _ _) Tryd.underlying23 rfl (bU l9.out) ?_)|((with_reducible refine aS 8 ?_);refine ak rfl 23 _ rfl (w.heap.size+1) 0 _ 23 (0,0) _ (bN.out.get 1 rfl) rfl .u8 us (au _ _) Tryd.underlying23 rfl (bU Jd.out) ?_)|((with_reducible show Calls _ 55 _ _ _);go_at_call 55; refine (HL.out _).mono ?_;rintro e w6 ⟨rfl,hb6⟩;have kQ:=Lib.hid (bN.out.kept hb6);clear hb6)|((with_reducible refine aS 6 ?_);refine aj rfl 23 rfl _ (dx.out _) ?_;have eX:=Lib.hid (kQ.out.alloc (arr .u8 zn) 23);generalize w6.heap.size=gz at eX ⊢; generalize w6.alloc (.cells (arr .u8 zn) 23)=w7 at eX ⊢)|((with_reducible refine aT 6 ?_);refine ah rfl 23 _ _ rfl (gz) _ _ 23 (eX.out.get 3 rfl) rfl rfl (ay _ _ iK.out cB.out) (bE iK.out) (av _ _) ?_;intro w8 jH nU qZ;have fM:=Lib.hid (eX.out.put 3 rfl nU jH);clear jH nU qZ))
 by_cases hx:bV k u=0
 ·have hzz:=HZ.out
  rw [decide_eq_true hx] at hzz
  have ZJ:=Lib.hid hzz
  have he:=HER.out
  rw [if_pos hx] at he
  subst he
  clear hzz
  go_wp2_with (first|((with_reducible refine aS 10 ?_);refine ak rfl 23 _ rfl (gz) 0 _ 23 (0,0) _ (fM.out.get 3 rfl) rfl .u8 rs (au _ _) Tryd.underlying23 rfl (bU iK.out) ?_)|((with_reducible refine aS 11 ?_);refine wpList_build (by rfl) 23 _ rfl #[] rfl _ (HBN.out _) ?_)|((with_reducible refine aS 12 ?_);refine gZ (by rfl) 23 _ _ (.tmp 10) (.tmp 11) rfl 32 .u8 .u8 Tryd.underlying23 Tryd.underlying5 (fun w=>by kernel_rfl) (by kernel_rfl) rs zn rfl rfl iK.out cB.out true ZJ.out ?_)|((with_reducible refine aS 13 ?_);refine ak rfl 23 _ rfl (gz) 0 _ 23 (0,0) _ (fM.out.get 3 rfl) rfl .u8 rs (au _ _) Tryd.underlying23 rfl (bU iK.out) ?_)|((with_reducible refine aT 4 ?_);refine ah rfl 23 _ _ rfl (w.heap.size+1+1) _ _ 23 (fM.out.get 2 rfl) rfl rfl (ay _ _ iK.out cB.out) (bE iK.out) (av _ _) ?_;intro w9 dG nK J9;have qd:=Lib.hid (fM.out.put 2 rfl nK dG);clear dG nK J9))
  (try simp only [Exit.then])
  refine bodyPost_ret (aP rfl _ _ (w.heap.size+1+1) 23 _ (0,0) _ _ rfl (qd.out.get 2 rfl) Tryd.underlying23 rfl (bE iK.out) rfl) rfl ?_
  exact ⟨rfl,qd.out.below⟩
 ·have hzz:=HZ.out
  rw [decide_eq_false hx] at hzz
  have ZJ:=Lib.hid hzz
  have he:=HER.out
  rw [if_neg hx] at he
  subst he
  clear hzz
  go_wp2_with (first|((with_reducible refine aS 10 ?_);refine ak rfl 23 _ rfl (gz) 0 _ 23 (0,0) _ (fM.out.get 3 rfl) rfl .u8 rs (au _ _) Tryd.underlying23 rfl (bU iK.out) ?_)|((with_reducible refine aS 11 ?_);refine wpList_build (by rfl) 23 _ rfl #[] rfl _ (HBN.out _) ?_)|((with_reducible refine aS 12 ?_);refine gZ (by rfl) 23 _ _ (.tmp 10) (.tmp 11) rfl 32 .u8 .u8 Tryd.underlying23 Tryd.underlying5 (fun w=>by kernel_rfl) (by kernel_rfl) rs zn rfl rfl iK.out cB.out false ZJ.out ?_)|((with_reducible refine aS 14 ?_);refine ak rfl 23 _ rfl (gz) 0 _ 23 (0,0) _ (fM.out.get 3 rfl) rfl .u8 rs (au _ _) Tryd.underlying23 rfl (bU iK.out) ?_)|((with_reducible refine aT 4 ?_);refine ah rfl 23 _ _ rfl (w.heap.size+1+1) _ _ 23 (fM.out.get 2 rfl) rfl rfl (ay _ _ iK.out cB.out) (bE iK.out) (av _ _) ?_;intro w9 dG nK J9;have qd:=Lib.hid (fM.out.put 2 rfl nK dG);clear dG nK J9))
  (try simp only [Exit.then])
  refine bodyPost_ret (aP rfl _ _ (w.heap.size+1+1) 23 _ (0,0) _ _ rfl (qd.out.get 2 rfl) Tryd.underlying23 rfl (bE iK.out) rfl) rfl ?_
  exact ⟨rfl,qd.out.below⟩
end Go.Proofs.YthdgbgleklkaiaaDoor.Rd
namespace Go.Proofs.YthdgbgleklkaiaaDoor.Wr
open Go.RowKit Lm Cu Sl Fp
theorem LZ (w:World):(Instr.build 108 #[]).run Tryd.prog w = .ok (.agg (arr .u8 (List.replicate 12 0))) w:=by kernel_rfl
theorem Qv {ts ds xs:List Int} (T D:Nat) (w:World) (hT:Mt ts T) (hD:Mt ds D) (hx:xs.length=32) (bx:bytes xs) (hk:Ha.eB w) :
  Calls Tryd.prog 35 #[.agg (arr .u8 ts), .agg (arr .u8 ds), .agg (arr .u8 xs)] w fun e w'=>(∃ sa c,e = .returned (.tuple #[.slice sa (Bt T D xs).length c, .int .i64 (Qj T D)])∧Src w' sa (Bt T D xs).length (Bt T D xs)∧(Bt T D xs).length≤c)∧Below w.heap.size w w':=by
 have p256:(256:Nat) ^ 32=2 ^ 256:=by decide
 have Rj:T < 2 ^ 256:=by rw [← p256];exact hT.2
 have hD2:D < 2 ^ 256:=by rw [← p256];exact hD.2
 have hpb2:∀ u:World,Calls Tryd.prog 36 #[.agg (arr .u8 ds)] u fun e w'=>e = .returned (.agg (arr .u8 (n32 (bV D 9))))∧Below u.heap.size u w':=by
  intro u
  rw [hD.1]
  exact Rd.GY D u hD2
 have G8:∀ u:World,Calls Tryd.prog 52 #[.agg (arr .u8 ds), .agg (arr .u8 ts)] u fun e w'=>e = .returned (.tuple #[.agg (arr .u8 (n32 (bV D T))), .int .i64 (Qj T D)])∧Below u.heap.size u w':=by
  intro u
  rw [hD.1,hT.1]
  exact Rd.Jz D T u hD2 Rj
 obtain ⟨es,hes⟩:∃ x,x=n32 (bV D 9):=⟨_,rfl⟩
 obtain ⟨zs,hzs⟩:∃ x,x=n32 (bV D T):=⟨_,rfl⟩
 rw [← hes] at hpb2
 rw [← hzs] at G8
 have hel:es.length=32:=by rw [hes];exact bW _
 have hzl:zs.length=32:=by rw [hzs];exact bW _
 have bes:bytes es:=by rw [hes];exact eH _
 have bzs:bytes zs:=by rw [hzs];exact eH _
 have bts:bytes ts:=by rw [hT.1];exact eH T
 have hwk:=fun (u:World) (h:Ha.eB u)=>Dw es zs u hel hzl bes bzs h
 obtain ⟨kv,hkv⟩:∃ x,x=Gg es zs:=⟨_,rfl⟩
 have hkl:kv.length=32:=by rw [hkv];exact sN _ _
 have bkv:bytes kv:=by rw [hkv];exact Jq _ _
 have hsd:sealed T D xs=Ae.lH kv n0 xs ts:=by rw [sealed,← hes,← hzs,← hkv,show n32 T=ts from hT.1.symm]
 have hsl:=yO T D xs hx
 rw [← hkv] at hwk
 have hse:∀ (u:World) (g1 g2:Addr),Src u (some g1) 32 xs→Src u (some g2) 32 ts→Calls Tryd.prog 53 #[.agg (arr .u8 kv), .agg (arr .u8 n0), .slice (some g1) 32 32, .slice (some g2) 32 32] u fun e w'=>∃ (a:Addr) (c:Nat),e = .returned (.slice (some a) 48 c)∧Src w' (some a) 48 (sealed T D xs)∧Below u.heap.size u w':=by
  intro u g1 g2 h1 h2
  refine (Ae.Cg kv n0 xs ts (some g1) (some g2) 32 32 32 32 u hkl n0_len bkv U5 h1 h2 bts (by decide) (by decide)).mono ?_
  rintro e w' ⟨v,rfl,ho,hb⟩
  rw [← hsd] at ho
  obtain ⟨sa,c,rfl, -, -, h3,hor⟩:=ho.form
  rw [hsl] at h3 ⊢
  rcases hor with ⟨-, h0, -⟩|⟨g,rfl, -, -⟩
  ·rw [h0] at hsl;exact absurd hsl (by decide)
  ·exact ⟨_,c,rfl,h3,hb⟩
 obtain ⟨SL,hSL⟩:∃ x,x=sealed T D xs:=⟨_,rfl⟩
 rw [← hSL] at hse hsl
 have hwr:Bt T D xs=if bV D T=0 then [] else es ++ SL:=by rw [Bt,← hes,← hSL]
 have hwe:Qj T D=if bV D T=0 then 21 else 0:=rfl
 obtain ⟨we,hwee⟩:∃ x,x=Qj T D:=⟨_,rfl⟩
 rw [← hwee] at G8 hwe ⊢
 obtain ⟨wl,hwl⟩:∃ x,x=Bt T D xs:=⟨_,rfl⟩
 rw [← hwl] at hwr ⊢
 obtain ⟨nv,OZ⟩:∃ x,x=n0:=⟨_,rfl⟩
 rw [← OZ] at hse
 have HN0L:Hid (nv.length=12):=Lib.hid (by rw [OZ];rfl)
 have HBN:Hid (∀ w,(Instr.build 108 #[]).run Tryd.prog w = .ok (.agg (arr .u8 nv)) w):=Lib.hid (by intro w;rw [OZ];exact LZ w)
 have HPB:=Lib.hid hpb2
 have HSH:=Lib.hid G8
 have HWK:=Lib.hid hwk
 have Mw:=Lib.hid hse
 have IU:=Lib.hid hel
 have uD:=Lib.hid hzl
 have HKVL:=Lib.hid hkl
 have Z7:=Lib.hid hsl
 have uE:=Lib.hid hT.len
 have x9:=Lib.hid hD.len
 have iG:=Lib.hid hx
 have vO:=Lib.hid hk
 obtain ⟨zn,hzn⟩:∃ zs:List Int,zs=List.replicate 32 0:=⟨_,rfl⟩
 have dx:Hid (∀ w,(zeroValue 23).run Tryd.prog w = .ok (.agg (arr .u8 zn)) w):=Lib.hid (by intro w;rw [hzn];exact zero_num w)
 have cB:Hid (zn.length=32):=Lib.hid (by rw [hzn];rfl)
 have HI0:=Lib.hid (bM.three w (arr .u8 ts) (arr .u8 ds) (arr .u8 xs) 23 23 23)
 have HWR:=Lib.hid hwr
 have HWE:=Lib.hid hwe
 clear p256 Rj hD2 hpb2 G8 hes hzs hel hzl bes bzs bts hwk hkv hkl bkv hsd hsl hse hSL hwr hwe hwee hwl OZ hzn hT hD hx bx hk
 go_enter Tryd.func35, Tryd.ntmps35
 go_upto_region 1 with fail
 (try simp only [World.size_alloc,Act.put,sA,sZ,sS])
 generalize (((w.alloc (.cells (arr .u8 ts) 23)).alloc (.cells (arr .u8 ds) 23)).alloc (.cells (arr .u8 xs) 23))=wb at HI0 ⊢
 go_upto_region 2 with (first|((with_reducible refine aS 11 ?_);refine ak rfl 23 _ rfl (w.heap.size+1) 0 _ 23 (0,0) _ (HI0.out.get 1 rfl) rfl .u8 ds (au _ _) Tryd.underlying23 rfl (bU x9.out) ?_)|((with_reducible show Calls _ 36 _ _ _);go_at_call 36; refine (HPB.out _).mono ?_;rintro e w1 ⟨rfl,hb1⟩;have HI1:=Lib.hid (HI0.out.kept hb1);clear hb1)|((with_reducible refine aS 8 ?_);refine aj rfl 23 rfl _ (dx.out _) ?_;have HI2:=Lib.hid (HI1.out.alloc (arr .u8 zn) 23);generalize w1.heap.size=g8 at HI2 ⊢; generalize w1.alloc (.cells (arr .u8 zn) 23)=w2 at HI2 ⊢)|((with_reducible refine aT 8 ?_);refine ah rfl 23 _ _ rfl (g8) _ _ 23 (HI2.out.get 3 rfl) rfl rfl (ay _ _ IU.out cB.out) (bE IU.out) (av _ _) ?_;intro w3 hb3 hk3 hz3;have HI3:=Lib.hid (HI2.out.put 3 rfl hk3 hb3);clear hb3 hk3 hz3))
 (try simp only [World.size_alloc,Act.put,sA,sZ,sS])
 go_upto_region 3 with (first|((with_reducible refine aS 14 ?_);refine ak rfl 23 _ rfl (w.heap.size+1) 0 _ 23 (0,0) _ (HI3.out.get 1 rfl) rfl .u8 ds (au _ _) Tryd.underlying23 rfl (bU x9.out) ?_)|((with_reducible refine aS 15 ?_);refine ak rfl 23 _ rfl (w.heap.size) 0 _ 23 (0,0) _ (HI3.out.get 0 rfl) rfl .u8 ts (au _ _) Tryd.underlying23 rfl (bU uE.out) ?_)|((with_reducible show Calls _ 52 _ _ _);go_at_call 52; refine (HSH.out _).mono ?_;rintro e w4 ⟨rfl,hb4⟩;have HI4:=Lib.hid (HI3.out.kept hb4);clear hb4)|((with_reducible refine aS 9 ?_);refine aj rfl 23 rfl _ (dx.out _) ?_;have HI5:=Lib.hid (HI4.out.alloc (arr .u8 zn) 23);generalize w4.heap.size=g9 at HI5 ⊢; generalize w4.alloc (.cells (arr .u8 zn) 23)=w5 at HI5 ⊢)|((with_reducible refine aT 9 ?_);refine ah rfl 23 _ _ rfl (g9) _ _ 23 (HI5.out.get 4 rfl) rfl rfl (ay _ _ uD.out cB.out) (bE uD.out) (av _ _) ?_;intro w6 hb6 xV Ka;have SX:=Lib.hid (HI5.out.put 4 rfl xV hb6);clear hb6 xV Ka))
 (try simp only [World.size_alloc,Act.put,sA,sZ,sS])
 by_cases hz:bV D T=0
 ·have e1:=HWE.out
  have e2:=HWR.out
  rw [if_pos hz] at e1 e2
  subst e1 e2
  clear HWE HWR
  go_wp2_with fail
  (try simp only [Exit.then])
  go_ret2
  exact ⟨⟨none,0,rfl,⟨rfl,fun i hi=>absurd hi (by simp)⟩,Nat.le_refl _⟩,SX.out.below⟩
 ·have e1:=HWE.out
  have e2:=HWR.out
  rw [if_neg hz] at e1 e2
  subst e1
  have vN:Hid (wl=es ++ SL):=Lib.hid e2
  clear e2 HWE HWR hz
  go_upto_region 5 with fail
  (try simp only [World.size_alloc,Act.put,sA,sZ,sS])
  have dU:=Lib.hid ((Kept.refl (fun _=>False) w6).drew)
  have dX:=Lib.hid (SX.out.drew)
  refine wp_region_held_drew (S:=(fun w'=>Kept (fun _=>False) w6 w')) (by kernel_rfl) (dU.out) (fun hHeld=>?_)
  generalize w6.drew=wd at dU dX hHeld ⊢
  refine wpAnyH_take (i:=0) (oi:=(⟨some 22,_,_,_,_,none⟩:Oper)) (v := .slice (some ⟨g8,0,none⟩) 32 32) rfl (by kernel_rfl) (by kernel_rfl) (by kernel_rfl) (fun _ _ _ h=>h) (Or.inl ⟨by rfl,?hy6901⟩) (by assumption) ?rest6901
  case hy6901=>(intro w hSw;(try dsimp only at hSw);go_simp;try (with_reducible rfl))
  (try simp only [Act.put,sA,sZ,sS])
  refine' wpAnyH_take (i:=2) (oi:=(⟨some 24,_,_,_,_,none⟩:Oper)) (v:=_) rfl (by kernel_rfl) (by kernel_rfl) (by kernel_rfl) (fun _ _ _ h=>h) (yieldsIf_load_mid (by rfl) _ _ rfl _ _ rfl (es.map (Value.int .u8)) _ ?hS6902 Tryd.underlying23 rfl (by rw [List.length_map];exact bU IU.out)) (by assumption) ?rest6902
  case hS6902=>(intro w hSw;(try dsimp only at hSw);exact aM (hSw.blk (SX.out.get 3 rfl) (fun e=>e.elim)) 0 _ (by rw [List.length_map];exact au _ _))
  (try simp only [Act.put,sA,sZ,sS])
  refine' wpAnyH_take (i:=3) (oi:=(⟨some 25,_,_,_,_,none⟩:Oper)) (v:=_) rfl (by kernel_rfl) (by kernel_rfl) (by kernel_rfl) (fun _ _ _ h=>h) (yieldsIf_load_mid (by rfl) _ _ rfl _ _ rfl (zs.map (Value.int .u8)) _ ?hS6903 Tryd.underlying23 rfl (by rw [List.length_map];exact bU uD.out)) (by assumption) ?rest6903
  case hS6903=>(intro w hSw;(try dsimp only at hSw);exact aM (hSw.blk (SX.out.get 4 rfl) (fun e=>e.elim)) 0 _ (by rw [List.length_map];exact au _ _))
  (try simp only [Act.put,sA,sZ,sS])
  refine wpAnyH_take (i:=5) (oi:=(⟨some 27,_,_,_,_,none⟩:Oper)) (v := .agg (arr .u8 nv)) rfl (by kernel_rfl) (by kernel_rfl) (by kernel_rfl) (fun _ _ _ h=>h) (Or.inl ⟨by rfl,?hy6904⟩) (by assumption) ?rest6904
  case hy6904=>(intro w hSw;(try dsimp only at hSw);exact nL 108 _ rfl #[] rfl _ (HBN.out _))
  (try simp only [Act.put,sA,sZ,sS])
  refine wpAnyH_take (i:=6) (oi:=(⟨some 28,_,_,_,_,none⟩:Oper)) (v := .slice (some ⟨w.heap.size+1+1,0,none⟩) 32 32) rfl (by kernel_rfl) (by kernel_rfl) (by kernel_rfl) (fun _ _ _ h=>h) (Or.inl ⟨by rfl,?hy6905⟩) (by assumption) ?rest6905
  case hy6905=>(intro w hSw;(try dsimp only at hSw);go_simp;try (with_reducible rfl))
  (try simp only [Act.put,sA,sZ,sS])
  refine wpAnyH_take (i:=7) (oi:=(⟨some 29,_,_,_,_,none⟩:Oper)) (v := .slice (some ⟨w.heap.size,0,none⟩) 32 32) rfl (by kernel_rfl) (by kernel_rfl) (by kernel_rfl) (fun _ _ _ h=>h) (Or.inl ⟨by rfl,?hy6906⟩) (by assumption) ?rest6906
  case hy6906=>(intro w hSw;(try dsimp only at hSw);go_simp;try (with_reducible rfl))
  (try simp only [Act.put,sA,sZ,sS])
  refine wpAnyH_ready (rs:=[1]) (by kernel_rfl) (by simp) ?_
  refine AllReadyH.cons (o:=(⟨some 23,_,_,_,_,none⟩:Oper)) rfl (fun K hK=>?_) AllReadyH.nil
  refine fQ rfl (.const (.slice none 0 0)) (.tmp 22) rfl wd.heap.size _ [] rfl (aV.nil _ _) _ 32 32 es rfl (bO (dX.out.get 3 rfl) 32 IU.out) (by decide) (Nat.le_refl _) ?_
  rw [List.nil_append]
  intro vb y32 how hgr _ _
  have dG:=aQ (aV.nil wd wd.heap.size) hgr (Below.refl _ _) (Nat.le_refl _)
  have HY32:=Lib.hid (dX.out.kept dG)
  have HQ32:=Lib.hid (dU.out.trans (Kept.of_below dG))
  have HOA:Hid (aV y32 wd.heap.size vb es):=Lib.hid how
  have Dj:Hid (∀ g,g < wd.heap.size→∀ k,vb.ownBlock=some k→g≠k):=Lib.hid (fun g hg k h=>by have:=(how.lt k h).1;omega)
  have og:Hid (w.heap.size < wd.heap.size∧w.heap.size+1 < wd.heap.size∧w.heap.size+1+1 < wd.heap.size∧g8 < wd.heap.size∧g9 < wd.heap.size):=Lib.hid ⟨dX.out.lt 0 rfl,dX.out.lt 1 rfl,dX.out.lt 2 rfl,dX.out.lt 3 rfl,dX.out.lt 4 rfl⟩
  have HWS:Hid (wd.heap.size≤y32.heap.size):=Lib.hid dG.size
  have F7:Hid (Below w.heap.size w wd∧w6.heap.size≤wd.heap.size):=Lib.hid ⟨dX.out.below,dU.out.size⟩
  generalize wd.heap.size=bsz at HOA Dj og HWS F7
  clear how hgr dG
  refine hK.out _ _ (HQ32.out) (fun hHeld=>?_)
  clear hK K
  (try simp only [Act.put,sA,sZ,sS])
  refine wpAnyH_ready (rs:=[4]) (by kernel_rfl) (by simp) ?_
  refine AllReadyH.cons (o:=(⟨some 26,_,_,_,_,none⟩:Oper)) rfl (fun K hK=>?_) AllReadyH.nil
  go_simp
  go_at_call 54
  refine (HWK.out _ (dI vO.out HY32.out.below)).mono ?_
  rintro e y33 ⟨rfl,dG⟩
  have HY33:=Lib.hid (HY32.out.kept dG)
  have HQ33:=Lib.hid (HQ32.out.trans (Kept.of_below dG))
  have HOB:=Lib.hid (HOA.out.below dG)
  have HWT:=Lib.hid (Nat.le_trans HWS.out dG.size)
  clear dG
  (try dsimp only)
  refine hK.out _ _ (HQ33.out) (fun hHeld=>?_)
  clear hK K
  (try simp only [Act.put,sA,sZ,sS])
  refine wpAnyH_ready (rs:=[8]) (by kernel_rfl) (by simp) ?_
  refine AllReadyH.cons (o:=(⟨some 30,_,_,_,_,none⟩:Oper)) rfl (fun K hK=>?_) AllReadyH.nil
  go_simp
  go_at_call 53
  refine (Mw.out _ _ _ (bO (HY33.out.get 2 rfl) 32 iG.out) (bO (HY33.out.get 0 rfl) 32 uE.out)).mono ?_
  rintro e y34 ⟨a7,c7,rfl,hs7,dG⟩
  have HY34:=Lib.hid (HY33.out.kept dG)
  have HQ34:=Lib.hid (HQ33.out.trans (Kept.of_below dG))
  have HOC:=Lib.hid (HOB.out.below dG)
  have HWU:=Lib.hid (Nat.le_trans HWT.out dG.size)
  have SQ:=Lib.hid hs7
  clear hs7
  clear dG
  (try dsimp only)
  refine hK.out _ _ (HQ34.out) (fun hHeld=>?_)
  clear hK K
  (try simp only [Act.put,sA,sZ,sS])
  refine wpAnyH_ready (rs:=[9]) (by kernel_rfl) (by simp) ?_
  refine AllReadyH.cons (o:=(⟨some 31,_,_,_,_,none⟩:Oper)) rfl (fun K hK=>?_) AllReadyH.nil
  refine fQ rfl (.tmp 23) (.tmp 30) rfl bsz vb es rfl HOC.out (some a7) 48 c7 SL rfl SQ.out (by rw [IU.out];decide) HWU.out ?_
  intro vf y35 how hgr _ _
  have hbe:Below w.heap.size w y35:=aQ (HOC.out.mono (Nat.le_of_lt og.out.1)) hgr HY34.out.below HY34.out.below.size
  have HY35:=Lib.hid (bM.grown HY34.out hgr (by
   intro e he e2
   have h5:=Dj.out e.1
   obtain ⟨l0,l1,l2,l3,l4⟩:=og.out
   simp only [List.mem_append,List.mem_cons,List.not_mem_nil,or_false,List.cons_append,List.nil_append,List.set] at he
   rcases he with rfl|rfl|rfl|rfl|rfl
   ·exact h5 l0 _ e2.symm rfl
   ·exact h5 l1 _ e2.symm rfl
   ·exact h5 l2 _ e2.symm rfl
   ·exact h5 l3 _ e2.symm rfl
   ·exact h5 l4 _ e2.symm rfl) hbe)
  have HQ35:Hid (Kept (fun _=>False) w6 y35):=Lib.hid (HQ34.out.cK (T:=fun _=>False) (T':=fun x=>vb.ownBlock=some x) ⟨hgr.os,hgr.tape,hgr.output,hgr.size,fun k hk hne=>hgr.block k hk (fun e=>hne e.symm)⟩ (fun i hi e=>absurd ((HOC.out.lt i e).1) (by have:=F7.out.2;omega)))
  have HOF:=Lib.hid how
  clear how hgr hbe
  refine hK.out _ _ (HQ35.out) (fun hHeld=>?_)
  clear hK K
  (try simp only [Act.put,sA,sZ,sS])
  refine wpAnyH_take (i:=10) (oi:=(⟨some 6,_,_,_,_,none⟩:Oper)) (v:=vf) rfl (by kernel_rfl) (by kernel_rfl) (by kernel_rfl) (fun _ _ _ h=>h) (Or.inl ⟨by rfl,?hy6907⟩) (by assumption) ?rest6907
  case hy6907=>(intro w hSw;(try dsimp only at hSw);first|rfl|kernel_rfl)
  (try simp only [Act.put,sA,sZ,sS])
  refine wpAnyH_take (i:=11) (oi:=(⟨some 7,_,_,_,_,none⟩:Oper)) (v := .int .i64 0) rfl (by kernel_rfl) (by kernel_rfl) (by kernel_rfl) (fun _ _ _ h=>h) (Or.inl ⟨by rfl,?hy6908⟩) (by assumption) ?rest6908
  case hy6908=>(intro w hSw;(try dsimp only at hSw);first|rfl|kernel_rfl)
  (try simp only [Act.put,sA,sZ,sS])
  refine wpAnyH_done (by kernel_rfl) ?_ _
  (try simp only [Exit.then])
  go_wp2_with fail
  (try simp only [Exit.then])
  obtain ⟨sf,cf,rfl,hcf, -, hsf, -⟩:=HOF.out.form
  have hlen:(es ++ SL).length=wl.length:=by rw [vN.out]
  rw [hlen] at hsf hcf ⊢
  go_ret2
  refine ⟨⟨sf,cf,rfl,?_,hcf⟩,HY35.out.below⟩
  have:=hsf
  rwa [← vN.out] at this
end Go.Proofs.YthdgbgleklkaiaaDoor.Wr
