/- The document's Ladder. Condition: as each theorem says. -/

import Derived.Test.YthdgbgleklkaiaaDoorQa20
set_option linter.unusedSimpArgs false
set_option linter.unusedVariables false
set_option maxRecDepth 100000
set_option maxHeartbeats 16000000
namespace Go.Proofs.YthdgbgleklkaiaaDoor.Rd
open Go.RowKit Lm Fp Cu
theorem Mc (w:World):(Instr.build 98 #[]).run Tryd.prog w = .ok (.agg (arr .i64 (List.replicate 16 0))) w:=by kernel_rfl
theorem and127f (t:Nat) (h:t < 256):bits .and .u8 (t:Int) 127=((t % 128:Nat):Int):=by
 have e:t &&& 127=t % 128:=Nat.and_two_pow_sub_one_eq_mod t 7
 have h1:(BitVec.ofInt 8 (t:Int)).toNat=t:=by rw [BitVec.ofInt_natCast,BitVec.toNat_ofNat];exact Nat.mod_eq_of_lt (by omega)
 have h2:(BitVec.ofInt 8 (127:Int)).toNat=127:=by decide
 show IntKind.u8.wrap ((BitVec.ofInt 8 (t:Int) &&& BitVec.ofInt 8 (127:Int)).toNat:Int)=_
 rw [BitVec.toNat_and,h1,h2,e,IntKind.wrap_u8]
 omega
theorem Vi (x k n:Nat):Ej x k (n+1)=(lJ x ((Ej x k n).swap (k / 2 ^ (254 - n) % 2))).swap (k / 2 ^ (254 - n) % 2):=rfl
theorem zy (k u:Nat) (w:World) (hk:k < 2 ^ 256) (hu:u < 2 ^ 256) :
  Calls Tryd.prog 55 #[.agg (arr .u8 (aW (bD 256 32 k))), .agg (arr .u8 (aW (bD 256 32 u)))] w fun e w'=>e = .returned (.agg (arr .u8 (aW (bD 256 32 (bV k u)))))∧Below w.heap.size w w':=by
 have hcl:=fun w=>wO k w hk
 obtain ⟨t1,t2⟩:=oK u hu
 have hds:=O8 u hu
 have hy2:u % 2 ^ 255 < 2 ^ 255:=Nat.mod_lt _ (by decide)
 have hin:=fun w=>J8 (u % 2 ^ 255) w (Nat.lt_of_lt_of_le hy2 (by decide))
 have Lv:(aW (bD 256 32 u)).getD 31 0=((u / 256 ^ 31:Nat):Int):=by rw [bG,t1]
 have hn2:(aW (bD 256 32 u)).set 31 ((u / 256 ^ 31 % 128:Nat):Int)=aW (bD 256 32 (u % 2 ^ 255)):=by rw [← dn,hds]
 have ha:=and127f (u / 256 ^ 31) t2
 generalize u / 256 ^ 31=t at Lv hn2 ha t2
 obtain ⟨K,hK⟩:∃ K,K=clamp k:=⟨_,rfl⟩
 obtain ⟨X,hX⟩:∃ X,X=u % 2 ^ 255 % p:=⟨_,rfl⟩
 have hres:bV k u=aA (Ej X K 255).a (finv (Ej X K 255).b):=by rw [hK,hX];rfl
 rw [hres]
 rw [← hK] at hcl
 rw [← hX] at hin
 obtain ⟨ks,hks⟩:∃ x,x=aW (bD 256 32 k):=⟨_,rfl⟩
 have l9:Hid (ks.length=32):=Lib.hid (by rw [hks,aH,aI])
 obtain ⟨us,OW⟩:∃ x,x=aW (bD 256 32 u):=⟨_,rfl⟩
 have Jd:Hid (us.length=32):=Lib.hid (by rw [OW,aH,aI])
 obtain ⟨um,hum⟩:∃ x,x=aW (bD 256 32 (u % 2 ^ 255)):=⟨_,rfl⟩
 have HUM:Hid (um.length=32):=Lib.hid (by rw [hum,aH,aI])
 obtain ⟨kc,hkc⟩:∃ x,x=aW (bD 256 32 K):=⟨_,rfl⟩
 have HKC:Hid (kc.length=32):=Lib.hid (by rw [hkc,aH,aI])
 rw [← hks,← OW]
 rw [← hks] at hcl
 rw [← hkc] at hcl
 rw [← OW] at Lv hn2
 rw [← hum] at hn2 hin
 have mV:=Lib.hid hcl
 have HIN:=Lib.hid hin
 have HG:=Lib.hid Lv
 have HN2:=Lib.hid hn2
 have HA:=Lib.hid ha
 have HES:=Lib.hid hkc
 obtain ⟨ze,iH⟩:∃ zs:List Int,zs=List.replicate 16 0:=⟨_,rfl⟩
 have dM:Hid (∀ w,(zeroValue 98).run Tryd.prog w = .ok (.agg (arr .i64 ze)) w):=Lib.hid (by intro w;rw [iH];exact gF w)
 have dB:Hid (ze.length=16):=Lib.hid (by rw [iH];rfl)
 obtain ⟨zn,hzn⟩:∃ zs:List Int,zs=List.replicate 32 0:=⟨_,rfl⟩
 have dx:Hid (∀ w,(zeroValue 23).run Tryd.prog w = .ok (.agg (arr .u8 zn)) w):=Lib.hid (by intro w;rw [hzn];exact zero_num w)
 have cB:Hid (zn.length=32):=Lib.hid (by rw [hzn];rfl)
 have HEz:Hid (El ze 0):=Lib.hid (by rw [iH];exact ED)
 have BO:Hid (∀ w,(Instr.build 98 #[]).run Tryd.prog w = .ok (.agg (arr .i64 ze)) w):=Lib.hid (by intro w;rw [iH];exact Mc w)
 have bN:=Lib.hid (bM.three w (arr .u8 ks) (arr .u8 us) (arr .u8 zn) 23 23 23)
 clear iH hzn hcl hds hy2 hin Lv hn2 ha hK hX hres hks OW hum hkc t1 hk hu
 go_enter Tryd.func55, Tryd.ntmps55
 go_upto_region 1 with (first|((with_reducible refine aS 4 ?_);refine aj rfl 23 rfl _ (dx.out _) ?_))
 (try simp only [World.size_alloc,Act.put,sA,sZ,sS])
 generalize (((w.alloc (.cells (arr .u8 ks) 23)).alloc (.cells (arr .u8 us) 23)).alloc (.cells (arr .u8 zn) 23))=wb at bN ⊢
 go_upto_region 2 with (first|((with_reducible refine aS 21 ?_);refine ak rfl 23 _ rfl (w.heap.size) (0) _ 23 (0,0) _ (bN.out.get 0 rfl) rfl .u8 ks (au _ _) Tryd.underlying23 rfl (bU l9.out) ?_)|((with_reducible show Calls _ 65 #[.agg _] _ _);go_at_call 65; refine (mV.out _).mono ?_;rintro e w1001 ⟨rfl,Yd⟩;have NR:=Lib.hid (bN.out.kept Yd);clear Yd)|((with_reducible refine aT 2 (x:=(Operand.tmp 22)) ?_);refine ah rfl 23 _ _ rfl (w.heap.size) _ _ 23 (NR.out.get 0 rfl) rfl rfl (ay _ _ HKC.out l9.out) (bE HKC.out) (av _ _) ?_;intro w1002 Yc WI hz1002;have NQ:=Lib.hid (NR.out.put 0 rfl WI Yc);clear Yc WI hz1002;clear NR))
 have q0:=aN (NQ.out.get 1 rfl) 31 (by rw [Jd.out];decide)
 have q1:=aC (NQ.out.get 1 rfl) 31
 rw [HG.out] at q0
 have hb1:=NQ.out.cell 1 rfl 31 (.int .u8 (bits .and .u8 (t:Int) 127))
 have e2:(arr .u8 us).setIfInBounds 31 (.int .u8 (bits .and .u8 (t:Int) 127))=arr .u8 um:=by rw [HA.out,aY,HN2.out]
 have HU1:=Lib.hid (hb1.cast (l':=[(w.heap.size,arr .u8 kc, 23),(w.heap.size+1,arr .u8 um, 23),(w.heap.size+1+1,arr .u8 zn, 23)]) (by rw [← e2];rfl))
 clear hb1 e2
 go_upto_region 3 with fail
 clear q0 q1
 generalize w1002.setCell ⟨w.heap.size+1,31,none⟩ (.int .u8 (bits .and .u8 (t:Int) 127))=wu at HU1 ⊢
 go_wp2_with (first|((with_reducible refine aS 27 ?_);refine ak rfl 23 _ rfl (w.heap.size+1) (0) _ 23 (0,0) _ (HU1.out.get 1 rfl) rfl .u8 um (au _ _) Tryd.underlying23 rfl (bU HUM.out) ?_)|((with_reducible show Calls _ 76 #[.agg _] _ _);go_at_call 76; refine (HIN.out _).mono ?_;rintro e w1003 ⟨BP,rfl,Y4,Yb⟩;have Z0:=Lib.hid Y4;have vV:=Lib.hid Y4.1;clear Y4;have HB1003:=Lib.hid (HU1.out.kept Yb);clear Yb)|((with_reducible refine aS 5 ?_);refine aj rfl 98 rfl _ (dM.out _) ?_;have Bl:=Lib.hid (HB1003.out.alloc (arr .i64 ze) 98);generalize w1003.heap.size=CP at Bl ⊢; generalize w1003.alloc (.cells (arr .i64 ze) 98)=w1004 at Bl ⊢; clear HB1003)|((with_reducible refine aT 5 (x:=(Operand.tmp 28)) ?_);refine ah rfl 98 _ _ rfl (CP) _ _ 98 (Bl.out.get 3 rfl) rfl rfl (ay _ _ vV.out dB.out) (cO vV.out) (av _ _) ?_;intro w1005 Ya WH hz1005;have HB1005:=Lib.hid (Bl.out.put 3 rfl WH Ya);clear Ya WH hz1005;clear Bl)|((with_reducible show Calls _ 71 #[_] _ _);go_at_call 71; refine (fO 1 _ (by decide)).mono ?_;rintro e w1006 ⟨z1006,rfl,Y3,X9⟩;have HZ1006:=Lib.hid Y3;have HL1006:=Lib.hid Y3.1;clear Y3;have HB1006:=Lib.hid (HB1005.out.kept X9);clear X9;clear HB1005)|((with_reducible refine aS 6 ?_);refine aj rfl 98 rfl _ (dM.out _) ?_;have Bj:=Lib.hid (HB1006.out.alloc (arr .i64 ze) 98);generalize w1006.heap.size=nX at Bj ⊢; generalize w1006.alloc (.cells (arr .i64 ze) 98)=w1007 at Bj ⊢; clear HB1006)|((with_reducible refine aT 6 (x:=(Operand.tmp 29)) ?_);refine ah rfl 98 _ _ rfl (nX) _ _ 98 (Bj.out.get 4 rfl) rfl rfl (ay _ _ HL1006.out dB.out) (cO HL1006.out) (av _ _) ?_;intro TG zK WG hz1008;have Bh:=Lib.hid (Bj.out.put 4 rfl WG zK);clear zK WG hz1008;clear Bj)|((with_reducible refine aS 30 ?_);refine wpList_build (by rfl) 98 _ rfl #[] rfl _ (BO.out _) ?_)|((with_reducible refine aS 7 ?_);refine aj rfl 98 rfl _ (dM.out _) ?_;have Bf:=Lib.hid (Bh.out.alloc (arr .i64 ze) 98);generalize TG.heap.size=lK at Bf ⊢; generalize TG.alloc (.cells (arr .i64 ze) 98)=w1009 at Bf ⊢; clear Bh)|((with_reducible refine aT 7 (x:=(Operand.tmp 30)) ?_);refine ah rfl 98 _ _ rfl (lK) _ _ 98 (Bf.out.get 5 rfl) rfl rfl (ay _ _ dB.out dB.out) (cO dB.out) (av _ _) ?_;intro w1010 X8 WE hz1010;have NP:=Lib.hid (Bf.out.put 5 rfl WE X8);clear X8 WE hz1010;clear Bf)|((with_reducible refine aS 31 ?_);refine ak rfl 98 _ rfl (CP) (0) _ 98 (0,0) _ (NP.out.get 3 rfl) rfl .i64 BP (au _ _) Tryd.underlying98 rfl (bI vV.out) ?_)|((with_reducible refine aS 8 ?_);refine aj rfl 98 rfl _ (dM.out _) ?_;have Bd:=Lib.hid (NP.out.alloc (arr .i64 ze) 98);generalize w1010.heap.size=qH at Bd ⊢; generalize w1010.alloc (.cells (arr .i64 ze) 98)=w1011 at Bd ⊢; clear NP)|((with_reducible refine aT 8 (x:=(Operand.tmp 31)) ?_);refine ah rfl 98 _ _ rfl (qH) _ _ 98 (Bd.out.get 6 rfl) rfl rfl (ay _ _ vV.out dB.out) (cO vV.out) (av _ _) ?_;intro w1012 X7 WC hz1012;have HB1012:=Lib.hid (Bd.out.put 6 rfl WC X7);clear X7 WC hz1012;clear Bd)|((with_reducible show Calls _ 71 #[_] _ _);go_at_call 71; refine (fO 1 _ (by decide)).mono ?_;rintro e w1013 ⟨z1013,rfl,Y2,X6⟩;have HZ1013:=Lib.hid Y2;have HL1013:=Lib.hid Y2.1;clear Y2;have HB1013:=Lib.hid (HB1012.out.kept X6);clear X6;clear HB1012)|((with_reducible refine aS 9 ?_);refine aj rfl 98 rfl _ (dM.out _) ?_;have Bc:=Lib.hid (HB1013.out.alloc (arr .i64 ze) 98);generalize w1013.heap.size=nV at Bc ⊢; generalize w1013.alloc (.cells (arr .i64 ze) 98)=w1014 at Bc ⊢; clear HB1013)|((with_reducible refine aT 9 (x:=(Operand.tmp 32)) ?_);refine ah rfl 98 _ _ rfl (nV) _ _ 98 (Bc.out.get 7 rfl) rfl rfl (ay _ _ HL1013.out dB.out) (cO HL1013.out) (av _ _) ?_;intro w1015 X5 WB hz1015;have HB1015:=Lib.hid (Bc.out.put 7 rfl WB X5);clear X5 WB hz1015;clear Bc))
 go_loopw [10] (fun v' wr=>∃ n:Nat,n≤255∧v' = .int .i64 (254 - (n:Int))∧∃ la lb lc ld:List Int,El la (Ej X K n).a∧El lb (Ej X K n).b∧El lc (Ej X K n).c∧El ld (Ej X K n).d∧bM w wr [(w.heap.size,arr .u8 kc, 23),(w.heap.size+1,arr .u8 um, 23),(w.heap.size+1+1,arr .u8 zn, 23),(CP,(arr .i64 BP), 98),(nX,arr .i64 la, 98),(lK,arr .i64 lb, 98),(qH,arr .i64 lc, 98),(nV,arr .i64 ld, 98)]) (fun v' _=>(intOf v'+1).toNat)
 case atStart=>exact ⟨0,Nat.zero_le _,rfl,_,_,_,_,HZ1006.out,HEz.out,Z0.out,HZ1013.out,HB1015.out⟩
 case round =>
 obtain ⟨n,hn,rfl,la,lb,lc,ld,h1,h2,h3,h4,hB⟩:=hrel
 have HAe:=Lib.hid h1
 have HBe:=Lib.hid h2
 have HCe:=Lib.hid h3
 have HDe:=Lib.hid h4
 have HAl:=Lib.hid h1.1
 have HBl:=Lib.hid h2.1
 have HCl:=Lib.hid h3.1
 have HDl:=Lib.hid h4.1
 have HB:=Lib.hid hB
 clear h1 h2 h3 h4 hB
 by_cases hlt:n < 255
 ·obtain ⟨i,hi⟩:∃ i:Nat,i+n=254:=⟨254 - n,by omega⟩
  have hz:(254:Int) - (n:Int)=(i:Int):=by omega
  have hi2:i < 256:=by omega
  obtain ⟨y,hy,hy2,hbit⟩:=zX kc K i HES.out hi2
  have hpn:=Vi X K n
  rw [show 254 - n=i by omega] at hpn
  rw [hz]
  have q0:=aN (HB.out.get 0 rfl) (i / 8) (by rw [HKC.out];omega)
  rw [hy] at q0
  have HI:=Lib.hid hi
  clear hy hz hi
  have q9:0≤(i:Int):=by omega
  have hb:=show K / 2 ^ i % 2=0∨K / 2 ^ i % 2=1 by omega
  generalize K / 2 ^ i % 2=b0 at hb hbit hpn
  obtain ⟨S,hS⟩:∃ S,S=(Ej X K n).swap b0:=⟨_,rfl⟩
  have Mw:=Lib.hid hS
  have Jf:Hid (Ej X K (n+1)=(lJ X S).swap b0):=Lib.hid (by rw [hpn,hS])
  clear hpn hS
  go_upto_if 47 with fail
  clear q0 hbit
  go_cut [] (fun wx=>∃ ta tb tc td:List Int,El ta S.a∧El tb S.b∧El tc S.c∧El td S.d∧bM w wx [(w.heap.size,arr .u8 kc, 23),(w.heap.size+1,arr .u8 um, 23),(w.heap.size+1+1,arr .u8 zn, 23),(CP,(arr .i64 BP), 98),(nX,arr .i64 ta, 98),(lK,arr .i64 tb, 98),(qH,arr .i64 tc, 98),(nV,arr .i64 td, 98)])
  case first =>
   rcases hb with rfl|rfl
   ·have hbv:(((0:Nat):Int) == 1)=false:=rfl
    go_wp2_with fail
    go_meet
    exact ⟨_,_,_,_,by rw [Mw.out];exact HAe.out,by rw [Mw.out];exact HBe.out,by rw [Mw.out];exact HCe.out,by rw [Mw.out];exact HDe.out,HB.out⟩
   ·have hbv:(((1:Nat):Int) == 1)=true:=rfl
    go_upto_region 14 with (first|((with_reducible refine aS 48 ?_);refine ak rfl 98 _ rfl (qH) (0) _ 98 (0,0) _ (HB.out.get 6 rfl) rfl .i64 lc (au _ _) Tryd.underlying98 rfl (bI HCl.out) ?_)|((with_reducible refine aS 49 ?_);refine ak rfl 98 _ rfl (nX) (0) _ 98 (0,0) _ (HB.out.get 4 rfl) rfl .i64 la (au _ _) Tryd.underlying98 rfl (bI HAl.out) ?_)|((with_reducible refine aT 6 (x:=(Operand.tmp 48)) ?_);refine ah rfl 98 _ _ rfl (nX) _ _ 98 (HB.out.get 4 rfl) rfl rfl (ay _ _ HCl.out HAl.out) (cO HCl.out) (av _ _) ?_;intro w1016 X4 WA hz1016;have NN:=Lib.hid (HB.out.put 4 rfl WA X4);clear X4 WA hz1016)|((with_reducible refine aT 8 (x:=(Operand.tmp 49)) ?_);refine ah rfl 98 _ _ rfl (qH) _ _ 98 (NN.out.get 6 rfl) rfl rfl (ay _ _ HAl.out HCl.out) (cO HAl.out) (av _ _) ?_;intro w1017 X3 Wz hz1017;have Bb:=Lib.hid (NN.out.put 6 rfl Wz X3);clear X3 Wz hz1017;clear NN))
    go_wp2_with (first|((with_reducible refine aS 50 ?_);refine ak rfl 98 _ rfl (nV) (0) _ 98 (0,0) _ (Bb.out.get 7 rfl) rfl .i64 ld (au _ _) Tryd.underlying98 rfl (bI HDl.out) ?_)|((with_reducible refine aS 51 ?_);refine ak rfl 98 _ rfl (lK) (0) _ 98 (0,0) _ (Bb.out.get 5 rfl) rfl .i64 lb (au _ _) Tryd.underlying98 rfl (bI HBl.out) ?_)|((with_reducible refine aT 7 (x:=(Operand.tmp 50)) ?_);refine ah rfl 98 _ _ rfl (lK) _ _ 98 (Bb.out.get 5 rfl) rfl rfl (ay _ _ HDl.out HBl.out) (cO HDl.out) (av _ _) ?_;intro w1018 X0 Wy hz1018;have NK:=Lib.hid (Bb.out.put 5 rfl Wy X0);clear X0 Wy hz1018;clear Bb)|((with_reducible refine aT 9 (x:=(Operand.tmp 51)) ?_);refine ah rfl 98 _ _ rfl (nV) _ _ 98 (NK.out.get 7 rfl) rfl rfl (ay _ _ HBl.out HDl.out) (cO HBl.out) (av _ _) ?_;intro w1019 XZ Wx hz1019;have HB1019:=Lib.hid (NK.out.put 7 rfl Wx XZ);clear XZ Wx hz1019;clear NK))
    go_meet
    exact ⟨_,_,_,_,by rw [Mw.out];exact HCe.out,by rw [Mw.out];exact HDe.out,by rw [Mw.out];exact HAe.out,by rw [Mw.out];exact HBe.out,HB1019.out⟩
  case rest =>
  obtain ⟨wt,rfl⟩:∃ x:World,x=wc:=⟨_,rfl⟩
  obtain ⟨ta,tb,tc,td,h1,h2,h3,h4,h5⟩:=hcut
  clear HAe HBe HCe HDe HAl HBl HCl HDl HB Mw
  have HAe:=Lib.hid h1
  have HBe:=Lib.hid h2
  have HCe:=Lib.hid h3
  have HDe:=Lib.hid h4
  have HAl:=Lib.hid h1.1
  have HBl:=Lib.hid h2.1
  have HCl:=Lib.hid h3.1
  have HDl:=Lib.hid h4.1
  have HB:=Lib.hid h5
  clear h1 h2 h3 h4 h5
  go_upto_region 15 with fail
  go_upto_region 16 with (first|((with_reducible refine aS 52 ?_);refine ak rfl 98 _ rfl (nX) (0) _ 98 (0,0) _ (HB.out.get 4 rfl) rfl .i64 ta (au _ _) Tryd.underlying98 rfl (bI HAl.out) ?_)|((with_reducible refine aS 53 ?_);refine ak rfl 98 _ rfl (lK) (0) _ 98 (0,0) _ (HB.out.get 5 rfl) rfl .i64 tb (au _ _) Tryd.underlying98 rfl (bI HBl.out) ?_)|((with_reducible show Calls _ 77 #[.agg _, .agg _] _ _);go_at_call 77; refine (iR _ _ _ _ _ HAe.out HBe.out).mono ?_;rintro e w1020 ⟨Gd,rfl,Y1,XY⟩;have Ai:=Lib.hid Y1;have Ar:=Lib.hid Y1.1;clear Y1;have HB1020:=Lib.hid (HB.out.kept XY);clear XY)|((with_reducible refine aS 12 ?_);refine aj rfl 98 rfl _ (dM.out _) ?_;have Ba:=Lib.hid (HB1020.out.alloc (arr .i64 ze) 98);generalize w1020.heap.size=Hu at Ba ⊢; generalize w1020.alloc (.cells (arr .i64 ze) 98)=w1021 at Ba ⊢; clear HB1020)|((with_reducible refine aT 12 (x:=(Operand.tmp 54)) ?_);refine ah rfl 98 _ _ rfl (Hu) _ _ 98 (Ba.out.get 8 rfl) rfl rfl (ay _ _ Ar.out dB.out) (cO Ar.out) (av _ _) ?_;intro w1022 XW Ww hz1022;have FY:=Lib.hid (Ba.out.put 8 rfl Ww XW);clear XW Ww hz1022;clear Ba))
  go_upto_region 17 with (first|((with_reducible refine aS 55 ?_);refine ak rfl 98 _ rfl (Hu) (0) _ 98 (0,0) _ (FY.out.get 8 rfl) rfl .i64 Gd (au _ _) Tryd.underlying98 rfl (bI Ar.out) ?_)|((with_reducible refine aS 56 ?_);refine ak rfl 98 _ rfl (Hu) (0) _ 98 (0,0) _ (FY.out.get 8 rfl) rfl .i64 Gd (au _ _) Tryd.underlying98 rfl (bI Ar.out) ?_)|((with_reducible show Calls _ 68 #[.agg _, .agg _] _ _);go_at_call 68; refine (bJ _ _ _ _ _ Ai.out Ai.out).mono ?_;rintro e w1023 ⟨Gc,rfl,YZ,XU⟩;have Mv:=Lib.hid YZ;have Aq:=Lib.hid YZ.1;clear YZ;have HB1023:=Lib.hid (FY.out.kept XU);clear XU;clear FY)|((with_reducible refine aS 13 ?_);refine aj rfl 98 rfl _ (dM.out _) ?_;have A9:=Lib.hid (HB1023.out.alloc (arr .i64 ze) 98);generalize w1023.heap.size=Ht at A9 ⊢; generalize w1023.alloc (.cells (arr .i64 ze) 98)=w1024 at A9 ⊢; clear HB1023)|((with_reducible refine aT 13 (x:=(Operand.tmp 57)) ?_);refine ah rfl 98 _ _ rfl (Ht) _ _ 98 (A9.out.get 9 rfl) rfl rfl (ay _ _ Aq.out dB.out) (cO Aq.out) (av _ _) ?_;intro w1025 XT Wv hz1025;have FX:=Lib.hid (A9.out.put 9 rfl Wv XT);clear XT Wv hz1025;clear A9))
  go_upto_region 18 with (first|((with_reducible refine aS 58 ?_);refine ak rfl 98 _ rfl (nX) (0) _ 98 (0,0) _ (FX.out.get 4 rfl) rfl .i64 ta (au _ _) Tryd.underlying98 rfl (bI HAl.out) ?_)|((with_reducible refine aS 59 ?_);refine ak rfl 98 _ rfl (lK) (0) _ 98 (0,0) _ (FX.out.get 5 rfl) rfl .i64 tb (au _ _) Tryd.underlying98 rfl (bI HBl.out) ?_)|((with_reducible show Calls _ 78 #[.agg _, .agg _] _ _);go_at_call 78; refine (je _ _ _ _ _ HAe.out HBe.out).mono ?_;rintro e w1026 ⟨Gb,rfl,YX,XR⟩;have Ah:=Lib.hid YX;have Ap:=Lib.hid YX.1;clear YX;have HB1026:=Lib.hid (FX.out.kept XR);clear XR;clear FX)|((with_reducible refine aS 14 ?_);refine aj rfl 98 rfl _ (dM.out _) ?_;have A8:=Lib.hid (HB1026.out.alloc (arr .i64 ze) 98);generalize w1026.heap.size=Hr at A8 ⊢; generalize w1026.alloc (.cells (arr .i64 ze) 98)=w1027 at A8 ⊢; clear HB1026)|((with_reducible refine aT 14 (x:=(Operand.tmp 60)) ?_);refine ah rfl 98 _ _ rfl (Hr) _ _ 98 (A8.out.get 10 rfl) rfl rfl (ay _ _ Ap.out dB.out) (cO Ap.out) (av _ _) ?_;intro w1028 XQ Wu hz1028;have FW:=Lib.hid (A8.out.put 10 rfl Wu XQ);clear XQ Wu hz1028;clear A8))
  go_upto_region 19 with (first|((with_reducible refine aS 61 ?_);refine ak rfl 98 _ rfl (Hr) (0) _ 98 (0,0) _ (FW.out.get 10 rfl) rfl .i64 Gb (au _ _) Tryd.underlying98 rfl (bI Ap.out) ?_)|((with_reducible refine aS 62 ?_);refine ak rfl 98 _ rfl (Hr) (0) _ 98 (0,0) _ (FW.out.get 10 rfl) rfl .i64 Gb (au _ _) Tryd.underlying98 rfl (bI Ap.out) ?_)|((with_reducible show Calls _ 68 #[.agg _, .agg _] _ _);go_at_call 68; refine (bJ _ _ _ _ _ Ah.out Ah.out).mono ?_;rintro e w1029 ⟨NW,rfl,YW,XP⟩;have ZY:=Lib.hid YW;have Fa:=Lib.hid YW.1;clear YW;have HB1029:=Lib.hid (FW.out.kept XP);clear XP;clear FW)|((with_reducible refine aS 15 ?_);refine aj rfl 98 rfl _ (dM.out _) ?_;have AZ:=Lib.hid (HB1029.out.alloc (arr .i64 ze) 98);generalize w1029.heap.size=Hq at AZ ⊢; generalize w1029.alloc (.cells (arr .i64 ze) 98)=w1030 at AZ ⊢; clear HB1029)|((with_reducible refine aT 15 (x:=(Operand.tmp 63)) ?_);refine ah rfl 98 _ _ rfl (Hq) _ _ 98 (AZ.out.get 11 rfl) rfl rfl (ay _ _ Fa.out dB.out) (cO Fa.out) (av _ _) ?_;intro w1031 XO Wt hz1031;have FV:=Lib.hid (AZ.out.put 11 rfl Wt XO);clear XO Wt hz1031;clear AZ))
  go_upto_region 20 with (first|((with_reducible refine aS 64 ?_);refine ak rfl 98 _ rfl (Ht) (0) _ 98 (0,0) _ (FV.out.get 9 rfl) rfl .i64 Gc (au _ _) Tryd.underlying98 rfl (bI Aq.out) ?_)|((with_reducible refine aS 65 ?_);refine ak rfl 98 _ rfl (Hq) (0) _ 98 (0,0) _ (FV.out.get 11 rfl) rfl .i64 NW (au _ _) Tryd.underlying98 rfl (bI Fa.out) ?_)|((with_reducible show Calls _ 78 #[.agg _, .agg _] _ _);go_at_call 78; refine (je _ _ _ _ _ Mv.out ZY.out).mono ?_;rintro e w1032 ⟨NV,rfl,YU,XM⟩;have ZW:=Lib.hid YU;have E9:=Lib.hid YU.1;clear YU;have HB1032:=Lib.hid (FV.out.kept XM);clear XM;clear FV)|((with_reducible refine aS 16 ?_);refine aj rfl 98 rfl _ (dM.out _) ?_;have AY:=Lib.hid (HB1032.out.alloc (arr .i64 ze) 98);generalize w1032.heap.size=Y7 at AY ⊢; generalize w1032.alloc (.cells (arr .i64 ze) 98)=w1033 at AY ⊢; clear HB1032)|((with_reducible refine aT 16 (x:=(Operand.tmp 66)) ?_);refine ah rfl 98 _ _ rfl (Y7) _ _ 98 (AY.out.get 12 rfl) rfl rfl (ay _ _ E9.out dB.out) (cO E9.out) (av _ _) ?_;intro BQ XK Ws hz1034;have FU:=Lib.hid (AY.out.put 12 rfl Ws XK);clear XK Ws hz1034;clear AY))
  (try simp only [Act.put,sA,sZ,sS])
  go_cut [17] (fun us' wx=>∃ gg xx,us' = .pointer (some ⟨gg,0,none⟩)∧El xx (aA (aX S.c S.d) (aJ S.a S.b))∧bM w wx [(w.heap.size,arr .u8 kc, 23),(w.heap.size+1,arr .u8 um, 23),(w.heap.size+1+1,arr .u8 zn, 23),(CP,(arr .i64 BP), 98),(nX,arr .i64 ta, 98),(lK,arr .i64 tb, 98),(qH,arr .i64 tc, 98),(nV,arr .i64 td, 98),(Hu,(arr .i64 Gd), 98),(Ht,(arr .i64 Gc), 98),(Hr,(arr .i64 Gb), 98),(Hq,(arr .i64 NW), 98),(Y7,(arr .i64 NV), 98),(gg,arr .i64 xx, 98)])
  case first =>
   have dU:=Lib.hid ((Kept.refl (fun _=>False) BQ).drew)
   have dX:=Lib.hid (FU.out.drew)
   refine wp_region_held_drew (S:=(fun w'=>Kept (fun _=>False) BQ w')) (by kernel_rfl) (dU.out) (fun hHeld=>?_)
   generalize BQ.drew=wd at dU dX hHeld ⊢
   refine' wpAnyH_take (i:=0) (oi:=(⟨some 67,_,_,_,_,none⟩:Oper)) (v:=_) rfl (by kernel_rfl) (by kernel_rfl) (by kernel_rfl) (fun _ _ _ h=>h) (yieldsIf_load_mid (by rfl) _ _ rfl _ _ rfl (tc.map (Value.int .i64)) _ ?hS1035 Tryd.underlying98 rfl (by rw [List.length_map];exact bI HCl.out)) (by assumption) ?rest1035
   case hS1035=>(intro w hSw;(try dsimp only at hSw);exact aM (hSw.blk (FU.out.get 6 rfl) (fun e=>e.elim)) 0 _ (by rw [List.length_map];exact au _ _))
   (try simp only [Act.put,sA,sZ,sS])
   refine' wpAnyH_take (i:=1) (oi:=(⟨some 68,_,_,_,_,none⟩:Oper)) (v:=_) rfl (by kernel_rfl) (by kernel_rfl) (by kernel_rfl) (fun _ _ _ h=>h) (yieldsIf_load_mid (by rfl) _ _ rfl _ _ rfl (td.map (Value.int .i64)) _ ?hS1036 Tryd.underlying98 rfl (by rw [List.length_map];exact bI HDl.out)) (by assumption) ?rest1036
   case hS1036=>(intro w hSw;(try dsimp only at hSw);exact aM (hSw.blk (FU.out.get 7 rfl) (fun e=>e.elim)) 0 _ (by rw [List.length_map];exact au _ _))
   (try simp only [Act.put,sA,sZ,sS])
   refine' wpAnyH_take (i:=3) (oi:=(⟨some 70,_,_,_,_,none⟩:Oper)) (v:=_) rfl (by kernel_rfl) (by kernel_rfl) (by kernel_rfl) (fun _ _ _ h=>h) (yieldsIf_load_mid (by rfl) _ _ rfl _ _ rfl (Gd.map (Value.int .i64)) _ ?hS1037 Tryd.underlying98 rfl (by rw [List.length_map];exact bI Ar.out)) (by assumption) ?rest1037
   case hS1037=>(intro w hSw;(try dsimp only at hSw);exact aM (hSw.blk (FU.out.get 8 rfl) (fun e=>e.elim)) 0 _ (by rw [List.length_map];exact au _ _))
   (try simp only [Act.put,sA,sZ,sS])
   refine wpAnyH_ready (rs:=[2,5]) (by kernel_rfl) (by simp) ?_
   refine AllReadyH.cons (o:=(⟨some 69,_,_,_,_,none⟩:Oper)) rfl (fun K hK=>?_) ?_
   ·go_simp
    go_at_call 78
    refine (je _ _ _ _ _ HCe.out HDe.out).mono ?_
    rintro e TB ⟨z1038,rfl,YT,Lp⟩
    have ZV:=Lib.hid YT
    have HL1038:=Lib.hid YT.1
    clear YT
    have FT:=Lib.hid (dX.out.kept Lp)
    have vZ:=Lib.hid (dU.out.trans (Kept.of_below Lp))
    clear Lp
    (try dsimp only)
    clear dX
    clear dU
    clear hHeld
    refine hK.out _ _ (vZ.out) (fun hHeld=>?_)
    clear hK K
    (try simp only [Act.put,sA,sZ,sS])
    refine wpAnyH_ready (rs:=[4,5]) (by kernel_rfl) (by simp) ?_
    refine AllReadyH.cons (o:=(⟨some 71,_,_,_,_,none⟩:Oper)) rfl (fun K hK=>?_) ?_
    ·go_simp
     go_at_call 68
     refine (bJ _ _ _ _ _ ZV.out Ai.out).mono ?_
     rintro e TA ⟨z1039,rfl,YS,Ll⟩
     have HZ1039:=Lib.hid YS
     have HL1039:=Lib.hid YS.1
     clear YS
     have HB1039:=Lib.hid (FT.out.kept Ll)
     have FB:=Lib.hid (vZ.out.trans (Kept.of_below Ll))
     clear Ll
     (try dsimp only)
     clear FT
     clear vZ
     clear hHeld
     refine hK.out _ _ (FB.out) (fun hHeld=>?_)
     clear hK K
     (try simp only [Act.put,sA,sZ,sS])
     refine wpAnyH_ready (rs:=[5]) (by kernel_rfl) (by simp) ?_
     refine AllReadyH.cons (o:=(⟨some 17,_,_,_,_,none⟩:Oper)) rfl (fun K hK=>?_) AllReadyH.nil
     refine bg rfl 98 rfl _ (dM.out _) ?_
     have AX:=Lib.hid (HB1039.out.alloc (arr .i64 ze) 98)
     have Fz:=Lib.hid (FB.out.alloc (.cells (arr .i64 ze) 98))
     have aaM:=Lib.hid (show BQ.heap.size≤(TA).heap.size from FB.out.size)
     generalize (TA).heap.size=g1040 at AX aaM ⊢
     generalize (TA).alloc (.cells (arr .i64 ze) 98)=w1040 at AX Fz ⊢
     clear HB1039
     clear FB
     clear hHeld
     refine hK.out _ _ (Fz.out) (fun hHeld=>?_)
     clear hK K
     (try simp only [Act.put,sA,sZ,sS])
     refine wpAnyH_ready (rs:=[6]) (by kernel_rfl) (by simp) ?_
     refine AllReadyH.cons (o:=(⟨none,_,_,_,_,none⟩:Oper)) rfl (fun K hK=>?_) AllReadyH.nil
     refine aD rfl 98 (.tmp 17) (.tmp 71) rfl (g1040) _ _ _ (AX.out.get 13 rfl) rfl rfl (ay _ _ HL1039.out dB.out) (cO HL1039.out) (av _ _) ?_
     intro w1041 XJ KD hz1041
     have HB1041:=Lib.hid (AX.out.put 13 rfl KD XJ)
     have HK1041:=Lib.hid (Fz.out.cK KD (fun i hi e=>absurd hi (by rw [e];exact Nat.not_lt.2 aaM.out)))
     clear XJ KD hz1041
     clear AX
     clear Fz
     clear hHeld
     refine hK.out _ _ (HK1041.out) (fun hHeld=>?_)
     clear hK K
     (try simp only [Act.put])
     refine wpAnyH_done (by kernel_rfl) ?_ _
     go_wp2_with fail
     go_meet
     exact ⟨_,_,rfl,HZ1039.out,HB1041.out⟩
    refine AllReadyH.cons (o:=(⟨some 17,_,_,_,_,none⟩:Oper)) rfl (fun K hK=>?_) ?_
    ·refine bg rfl 98 rfl _ (dM.out _) ?_
     have FR:=Lib.hid (FT.out.alloc (arr .i64 ze) 98)
     have Fy:=Lib.hid (vZ.out.alloc (.cells (arr .i64 ze) 98))
     have aaL:=Lib.hid (show BQ.heap.size≤(TB).heap.size from vZ.out.size)
     generalize (TB).heap.size=g1042 at FR aaL ⊢
     generalize (TB).alloc (.cells (arr .i64 ze) 98)=w1042 at FR Fy ⊢
     clear FT
     clear vZ
     clear hHeld
     refine hK.out _ _ (Fy.out) (fun hHeld=>?_)
     clear hK K
     (try simp only [Act.put,sA,sZ,sS])
     refine wpAnyH_ready (rs:=[4]) (by kernel_rfl) (by simp) ?_
     refine AllReadyH.cons (o:=(⟨some 71,_,_,_,_,none⟩:Oper)) rfl (fun K hK=>?_) AllReadyH.nil
     go_simp
     go_at_call 68
     refine (bJ _ _ _ _ _ ZV.out Ai.out).mono ?_
     rintro e w1043 ⟨z1043,rfl,YR,Lj⟩
     have HZ1043:=Lib.hid YR
     have HL1043:=Lib.hid YR.1
     clear YR
     have NJ:=Lib.hid (FR.out.kept Lj)
     have Nk:=Lib.hid (Fy.out.trans (Kept.of_below Lj))
     clear Lj
     (try dsimp only)
     clear FR
     clear Fy
     clear hHeld
     refine hK.out _ _ (Nk.out) (fun hHeld=>?_)
     clear hK K
     (try simp only [Act.put,sA,sZ,sS])
     refine wpAnyH_ready (rs:=[6]) (by kernel_rfl) (by simp) ?_
     refine AllReadyH.cons (o:=(⟨none,_,_,_,_,none⟩:Oper)) rfl (fun K hK=>?_) AllReadyH.nil
     refine aD rfl 98 (.tmp 17) (.tmp 71) rfl (g1042) _ _ _ (NJ.out.get 13 rfl) rfl rfl (ay _ _ HL1043.out dB.out) (cO HL1043.out) (av _ _) ?_
     intro w1044 XI KC hz1044
     have HB1044:=Lib.hid (NJ.out.put 13 rfl KC XI)
     have HK1044:=Lib.hid (Nk.out.cK KC (fun i hi e=>absurd hi (by rw [e];exact Nat.not_lt.2 aaL.out)))
     clear XI KC hz1044
     clear NJ
     clear Nk
     clear hHeld
     refine hK.out _ _ (HK1044.out) (fun hHeld=>?_)
     clear hK K
     (try simp only [Act.put])
     refine wpAnyH_done (by kernel_rfl) ?_ _
     go_wp2_with fail
     go_meet
     exact ⟨_,_,rfl,HZ1043.out,HB1044.out⟩
    exact AllReadyH.nil
   refine AllReadyH.cons (o:=(⟨some 17,_,_,_,_,none⟩:Oper)) rfl (fun K hK=>?_) ?_
   ·refine bg rfl 98 rfl _ (dM.out _) ?_
    have FQ:=Lib.hid (dX.out.alloc (arr .i64 ze) 98)
    have Fx:=Lib.hid (dU.out.alloc (.cells (arr .i64 ze) 98))
    have aaK:=Lib.hid (show BQ.heap.size≤(wd).heap.size from dU.out.size)
    generalize (wd).heap.size=g1045 at FQ aaK ⊢
    generalize (wd).alloc (.cells (arr .i64 ze) 98)=w1045 at FQ Fx ⊢
    clear dX
    clear dU
    clear hHeld
    refine hK.out _ _ (Fx.out) (fun hHeld=>?_)
    clear hK K
    (try simp only [Act.put,sA,sZ,sS])
    refine wpAnyH_ready (rs:=[2]) (by kernel_rfl) (by simp) ?_
    refine AllReadyH.cons (o:=(⟨some 69,_,_,_,_,none⟩:Oper)) rfl (fun K hK=>?_) AllReadyH.nil
    go_simp
    go_at_call 78
    refine (je _ _ _ _ _ HCe.out HDe.out).mono ?_
    rintro e w1046 ⟨z1046,rfl,YQ,Li⟩
    have HZ1046:=Lib.hid YQ
    have HL1046:=Lib.hid YQ.1
    clear YQ
    have HB1046:=Lib.hid (FQ.out.kept Li)
    have Nj:=Lib.hid (Fx.out.trans (Kept.of_below Li))
    clear Li
    (try dsimp only)
    clear FQ
    clear Fx
    clear hHeld
    refine hK.out _ _ (Nj.out) (fun hHeld=>?_)
    clear hK K
    (try simp only [Act.put,sA,sZ,sS])
    refine wpAnyH_ready (rs:=[4]) (by kernel_rfl) (by simp) ?_
    refine AllReadyH.cons (o:=(⟨some 71,_,_,_,_,none⟩:Oper)) rfl (fun K hK=>?_) AllReadyH.nil
    go_simp
    go_at_call 68
    refine (bJ _ _ _ _ _ HZ1046.out Ai.out).mono ?_
    rintro e w1047 ⟨z1047,rfl,YP,Lh⟩
    have HZ1047:=Lib.hid YP
    have HL1047:=Lib.hid YP.1
    clear YP
    have NI:=Lib.hid (HB1046.out.kept Lh)
    have Ni:=Lib.hid (Nj.out.trans (Kept.of_below Lh))
    clear Lh
    (try dsimp only)
    clear HB1046
    clear Nj
    clear hHeld
    refine hK.out _ _ (Ni.out) (fun hHeld=>?_)
    clear hK K
    (try simp only [Act.put,sA,sZ,sS])
    refine wpAnyH_ready (rs:=[6]) (by kernel_rfl) (by simp) ?_
    refine AllReadyH.cons (o:=(⟨none,_,_,_,_,none⟩:Oper)) rfl (fun K hK=>?_) AllReadyH.nil
    refine aD rfl 98 (.tmp 17) (.tmp 71) rfl (g1045) _ _ _ (NI.out.get 13 rfl) rfl rfl (ay _ _ HL1047.out dB.out) (cO HL1047.out) (av _ _) ?_
    intro w1048 XH KA hz1048
    have HB1048:=Lib.hid (NI.out.put 13 rfl KA XH)
    have HK1048:=Lib.hid (Ni.out.cK KA (fun i hi e=>absurd hi (by rw [e];exact Nat.not_lt.2 aaK.out)))
    clear XH KA hz1048
    clear NI
    clear Ni
    clear hHeld
    refine hK.out _ _ (HK1048.out) (fun hHeld=>?_)
    clear hK K
    (try simp only [Act.put])
    refine wpAnyH_done (by kernel_rfl) ?_ _
    go_wp2_with fail
    go_meet
    exact ⟨_,_,rfl,HZ1047.out,HB1048.out⟩
   exact AllReadyH.nil
  case rest =>
  obtain ⟨Qf,rfl⟩:∃ x:World,x=wc:=⟨_,rfl⟩
  obtain ⟨gy20,xy20,rfl,h1,hb1⟩:=hcut
  have PW:=Lib.hid hb1
  have HXy20:=Lib.hid h1
  have HLy20:=Lib.hid h1.1
  clear h1 hb1
  go_upto_region 21 with fail
  go_cut [18] (fun us' wx=>∃ gg xx,us' = .pointer (some ⟨gg,0,none⟩)∧El xx (aA (aJ S.c S.d) (aX S.a S.b))∧bM w wx [(w.heap.size,arr .u8 kc, 23),(w.heap.size+1,arr .u8 um, 23),(w.heap.size+1+1,arr .u8 zn, 23),(CP,(arr .i64 BP), 98),(nX,arr .i64 ta, 98),(lK,arr .i64 tb, 98),(qH,arr .i64 tc, 98),(nV,arr .i64 td, 98),(Hu,(arr .i64 Gd), 98),(Ht,(arr .i64 Gc), 98),(Hr,(arr .i64 Gb), 98),(Hq,(arr .i64 NW), 98),(Y7,(arr .i64 NV), 98),(gy20,arr .i64 xy20, 98),(gg,arr .i64 xx, 98)])
  case first =>
   have dU:=Lib.hid ((Kept.refl (fun _=>False) Qf).drew)
   have dX:=Lib.hid (PW.out.drew)
   refine wp_region_held_drew (S:=(fun w'=>Kept (fun _=>False) Qf w')) (by kernel_rfl) (dU.out) (fun hHeld=>?_)
   generalize Qf.drew=wd at dU dX hHeld ⊢
   refine' wpAnyH_take (i:=0) (oi:=(⟨some 72,_,_,_,_,none⟩:Oper)) (v:=_) rfl (by kernel_rfl) (by kernel_rfl) (by kernel_rfl) (fun _ _ _ h=>h) (yieldsIf_load_mid (by rfl) _ _ rfl _ _ rfl (tc.map (Value.int .i64)) _ ?hS1049 Tryd.underlying98 rfl (by rw [List.length_map];exact bI HCl.out)) (by assumption) ?rest1049
   case hS1049=>(intro w hSw;(try dsimp only at hSw);exact aM (hSw.blk (PW.out.get 6 rfl) (fun e=>e.elim)) 0 _ (by rw [List.length_map];exact au _ _))
   (try simp only [Act.put,sA,sZ,sS])
   refine' wpAnyH_take (i:=1) (oi:=(⟨some 73,_,_,_,_,none⟩:Oper)) (v:=_) rfl (by kernel_rfl) (by kernel_rfl) (by kernel_rfl) (fun _ _ _ h=>h) (yieldsIf_load_mid (by rfl) _ _ rfl _ _ rfl (td.map (Value.int .i64)) _ ?hS1050 Tryd.underlying98 rfl (by rw [List.length_map];exact bI HDl.out)) (by assumption) ?rest1050
   case hS1050=>(intro w hSw;(try dsimp only at hSw);exact aM (hSw.blk (PW.out.get 7 rfl) (fun e=>e.elim)) 0 _ (by rw [List.length_map];exact au _ _))
   (try simp only [Act.put,sA,sZ,sS])
   refine' wpAnyH_take (i:=3) (oi:=(⟨some 75,_,_,_,_,none⟩:Oper)) (v:=_) rfl (by kernel_rfl) (by kernel_rfl) (by kernel_rfl) (fun _ _ _ h=>h) (yieldsIf_load_mid (by rfl) _ _ rfl _ _ rfl (Gb.map (Value.int .i64)) _ ?hS1051 Tryd.underlying98 rfl (by rw [List.length_map];exact bI Ap.out)) (by assumption) ?rest1051
   case hS1051=>(intro w hSw;(try dsimp only at hSw);exact aM (hSw.blk (PW.out.get 10 rfl) (fun e=>e.elim)) 0 _ (by rw [List.length_map];exact au _ _))
   (try simp only [Act.put,sA,sZ,sS])
   refine wpAnyH_ready (rs:=[2,5]) (by kernel_rfl) (by simp) ?_
   refine AllReadyH.cons (o:=(⟨some 74,_,_,_,_,none⟩:Oper)) rfl (fun K hK=>?_) ?_
   ·go_simp
    go_at_call 77
    refine (iR _ _ _ _ _ HCe.out HDe.out).mono ?_
    rintro e Tz ⟨z1052,rfl,YO,Lg⟩
    have ZU:=Lib.hid YO
    have HL1052:=Lib.hid YO.1
    clear YO
    have FP:=Lib.hid (dX.out.kept Lg)
    have vY:=Lib.hid (dU.out.trans (Kept.of_below Lg))
    clear Lg
    (try dsimp only)
    clear dX
    clear dU
    clear hHeld
    refine hK.out _ _ (vY.out) (fun hHeld=>?_)
    clear hK K
    (try simp only [Act.put,sA,sZ,sS])
    refine wpAnyH_ready (rs:=[4,5]) (by kernel_rfl) (by simp) ?_
    refine AllReadyH.cons (o:=(⟨some 76,_,_,_,_,none⟩:Oper)) rfl (fun K hK=>?_) ?_
    ·go_simp
     go_at_call 68
     refine (bJ _ _ _ _ _ ZU.out Ah.out).mono ?_
     rintro e Tx ⟨z1053,rfl,YN,Lf⟩
     have HZ1053:=Lib.hid YN
     have HL1053:=Lib.hid YN.1
     clear YN
     have HB1053:=Lib.hid (FP.out.kept Lf)
     have Fw:=Lib.hid (vY.out.trans (Kept.of_below Lf))
     clear Lf
     (try dsimp only)
     clear FP
     clear vY
     clear hHeld
     refine hK.out _ _ (Fw.out) (fun hHeld=>?_)
     clear hK K
     (try simp only [Act.put,sA,sZ,sS])
     refine wpAnyH_ready (rs:=[5]) (by kernel_rfl) (by simp) ?_
     refine AllReadyH.cons (o:=(⟨some 18,_,_,_,_,none⟩:Oper)) rfl (fun K hK=>?_) AllReadyH.nil
     refine bg rfl 98 rfl _ (dM.out _) ?_
     have AV:=Lib.hid (HB1053.out.alloc (arr .i64 ze) 98)
     have Fv:=Lib.hid (Fw.out.alloc (.cells (arr .i64 ze) 98))
     have aaJ:=Lib.hid (show Qf.heap.size≤(Tx).heap.size from Fw.out.size)
     generalize (Tx).heap.size=g1054 at AV aaJ ⊢
     generalize (Tx).alloc (.cells (arr .i64 ze) 98)=w1054 at AV Fv ⊢
     clear HB1053
     clear Fw
     clear hHeld
     refine hK.out _ _ (Fv.out) (fun hHeld=>?_)
     clear hK K
     (try simp only [Act.put,sA,sZ,sS])
     refine wpAnyH_ready (rs:=[6]) (by kernel_rfl) (by simp) ?_
     refine AllReadyH.cons (o:=(⟨none,_,_,_,_,none⟩:Oper)) rfl (fun K hK=>?_) AllReadyH.nil
     refine aD rfl 98 (.tmp 18) (.tmp 76) rfl (g1054) _ _ _ (AV.out.get 14 rfl) rfl rfl (ay _ _ HL1053.out dB.out) (cO HL1053.out) (av _ _) ?_
     intro w1055 XF Kz hz1055
     have HB1055:=Lib.hid (AV.out.put 14 rfl Kz XF)
     have HK1055:=Lib.hid (Fv.out.cK Kz (fun i hi e=>absurd hi (by rw [e];exact Nat.not_lt.2 aaJ.out)))
     clear XF Kz hz1055
     clear AV
     clear Fv
     clear hHeld
     refine hK.out _ _ (HK1055.out) (fun hHeld=>?_)
     clear hK K
     (try simp only [Act.put])
     refine wpAnyH_done (by kernel_rfl) ?_ _
     go_wp2_with fail
     go_meet
     exact ⟨_,_,rfl,HZ1053.out,HB1055.out⟩
    refine AllReadyH.cons (o:=(⟨some 18,_,_,_,_,none⟩:Oper)) rfl (fun K hK=>?_) ?_
    ·refine bg rfl 98 rfl _ (dM.out _) ?_
     have FN:=Lib.hid (FP.out.alloc (arr .i64 ze) 98)
     have Fu:=Lib.hid (vY.out.alloc (.cells (arr .i64 ze) 98))
     have aaI:=Lib.hid (show Qf.heap.size≤(Tz).heap.size from vY.out.size)
     generalize (Tz).heap.size=g1056 at FN aaI ⊢
     generalize (Tz).alloc (.cells (arr .i64 ze) 98)=w1056 at FN Fu ⊢
     clear FP
     clear vY
     clear hHeld
     refine hK.out _ _ (Fu.out) (fun hHeld=>?_)
     clear hK K
     (try simp only [Act.put,sA,sZ,sS])
     refine wpAnyH_ready (rs:=[4]) (by kernel_rfl) (by simp) ?_
     refine AllReadyH.cons (o:=(⟨some 76,_,_,_,_,none⟩:Oper)) rfl (fun K hK=>?_) AllReadyH.nil
     go_simp
     go_at_call 68
     refine (bJ _ _ _ _ _ ZU.out Ah.out).mono ?_
     rintro e w1057 ⟨z1057,rfl,YM,Le⟩
     have HZ1057:=Lib.hid YM
     have HL1057:=Lib.hid YM.1
     clear YM
     have NH:=Lib.hid (FN.out.kept Le)
     have Nh:=Lib.hid (Fu.out.trans (Kept.of_below Le))
     clear Le
     (try dsimp only)
     clear FN
     clear Fu
     clear hHeld
     refine hK.out _ _ (Nh.out) (fun hHeld=>?_)
     clear hK K
     (try simp only [Act.put,sA,sZ,sS])
     refine wpAnyH_ready (rs:=[6]) (by kernel_rfl) (by simp) ?_
     refine AllReadyH.cons (o:=(⟨none,_,_,_,_,none⟩:Oper)) rfl (fun K hK=>?_) AllReadyH.nil
     refine aD rfl 98 (.tmp 18) (.tmp 76) rfl (g1056) _ _ _ (NH.out.get 14 rfl) rfl rfl (ay _ _ HL1057.out dB.out) (cO HL1057.out) (av _ _) ?_
     intro w1058 Xz Ky hz1058
     have HB1058:=Lib.hid (NH.out.put 14 rfl Ky Xz)
     have HK1058:=Lib.hid (Nh.out.cK Ky (fun i hi e=>absurd hi (by rw [e];exact Nat.not_lt.2 aaI.out)))
     clear Xz Ky hz1058
     clear NH
     clear Nh
     clear hHeld
     refine hK.out _ _ (HK1058.out) (fun hHeld=>?_)
     clear hK K
     (try simp only [Act.put])
     refine wpAnyH_done (by kernel_rfl) ?_ _
     go_wp2_with fail
     go_meet
     exact ⟨_,_,rfl,HZ1057.out,HB1058.out⟩
    exact AllReadyH.nil
   refine AllReadyH.cons (o:=(⟨some 18,_,_,_,_,none⟩:Oper)) rfl (fun K hK=>?_) ?_
   ·refine bg rfl 98 rfl _ (dM.out _) ?_
    have FL:=Lib.hid (dX.out.alloc (arr .i64 ze) 98)
    have Fq:=Lib.hid (dU.out.alloc (.cells (arr .i64 ze) 98))
    have aaH:=Lib.hid (show Qf.heap.size≤(wd).heap.size from dU.out.size)
    generalize (wd).heap.size=g1059 at FL aaH ⊢
    generalize (wd).alloc (.cells (arr .i64 ze) 98)=w1059 at FL Fq ⊢
    clear dX
    clear dU
    clear hHeld
    refine hK.out _ _ (Fq.out) (fun hHeld=>?_)
    clear hK K
    (try simp only [Act.put,sA,sZ,sS])
    refine wpAnyH_ready (rs:=[2]) (by kernel_rfl) (by simp) ?_
    refine AllReadyH.cons (o:=(⟨some 74,_,_,_,_,none⟩:Oper)) rfl (fun K hK=>?_) AllReadyH.nil
    go_simp
    go_at_call 77
    refine (iR _ _ _ _ _ HCe.out HDe.out).mono ?_
    rintro e w1060 ⟨z1060,rfl,YK,Ld⟩
    have HZ1060:=Lib.hid YK
    have HL1060:=Lib.hid YK.1
    clear YK
    have HB1060:=Lib.hid (FL.out.kept Ld)
    have Ng:=Lib.hid (Fq.out.trans (Kept.of_below Ld))
    clear Ld
    (try dsimp only)
    clear FL
    clear Fq
    clear hHeld
    refine hK.out _ _ (Ng.out) (fun hHeld=>?_)
    clear hK K
    (try simp only [Act.put,sA,sZ,sS])
    refine wpAnyH_ready (rs:=[4]) (by kernel_rfl) (by simp) ?_
    refine AllReadyH.cons (o:=(⟨some 76,_,_,_,_,none⟩:Oper)) rfl (fun K hK=>?_) AllReadyH.nil
    go_simp
    go_at_call 68
    refine (bJ _ _ _ _ _ HZ1060.out Ah.out).mono ?_
    rintro e w1061 ⟨z1061,rfl,YJ,Lc⟩
    have HZ1061:=Lib.hid YJ
    have HL1061:=Lib.hid YJ.1
    clear YJ
    have NG:=Lib.hid (HB1060.out.kept Lc)
    have Nf:=Lib.hid (Ng.out.trans (Kept.of_below Lc))
    clear Lc
    (try dsimp only)
    clear HB1060
    clear Ng
    clear hHeld
    refine hK.out _ _ (Nf.out) (fun hHeld=>?_)
    clear hK K
    (try simp only [Act.put,sA,sZ,sS])
    refine wpAnyH_ready (rs:=[6]) (by kernel_rfl) (by simp) ?_
    refine AllReadyH.cons (o:=(⟨none,_,_,_,_,none⟩:Oper)) rfl (fun K hK=>?_) AllReadyH.nil
    refine aD rfl 98 (.tmp 18) (.tmp 76) rfl (g1059) _ _ _ (NG.out.get 14 rfl) rfl rfl (ay _ _ HL1061.out dB.out) (cO HL1061.out) (av _ _) ?_
    intro w1062 Xy Kw hz1062
    have HB1062:=Lib.hid (NG.out.put 14 rfl Kw Xy)
    have HK1062:=Lib.hid (Nf.out.cK Kw (fun i hi e=>absurd hi (by rw [e];exact Nat.not_lt.2 aaH.out)))
    clear Xy Kw hz1062
    clear NG
    clear Nf
    clear hHeld
    refine hK.out _ _ (HK1062.out) (fun hHeld=>?_)
    clear hK K
    (try simp only [Act.put])
    refine wpAnyH_done (by kernel_rfl) ?_ _
    go_wp2_with fail
    go_meet
    exact ⟨_,_,rfl,HZ1061.out,HB1062.out⟩
   exact AllReadyH.nil
  case rest =>
  obtain ⟨wy21,rfl⟩:∃ x:World,x=wc:=⟨_,rfl⟩
  obtain ⟨gy21,xy21,rfl,h1,hb1⟩:=hcut
  have HBy21:=Lib.hid hb1
  have HXy21:=Lib.hid h1
  have HLy21:=Lib.hid h1.1
  clear h1 hb1
  go_upto_region 23 with (first|((with_reducible refine aS 77 ?_);refine ak rfl 98 _ rfl (gy20) (0) _ 98 (0,0) _ (HBy21.out.get 13 rfl) rfl .i64 xy20 (au _ _) Tryd.underlying98 rfl (bI HLy20.out) ?_)|((with_reducible refine aS 78 ?_);refine ak rfl 98 _ rfl (gy21) (0) _ 98 (0,0) _ (HBy21.out.get 14 rfl) rfl .i64 xy21 (au _ _) Tryd.underlying98 rfl (bI HLy21.out) ?_)|((with_reducible show Calls _ 77 #[.agg _, .agg _] _ _);go_at_call 77; refine (iR _ _ _ _ _ HXy20.out HXy21.out).mono ?_;rintro e w1063 ⟨z1063,rfl,YI,Xx⟩;have ZT:=Lib.hid YI;have E8:=Lib.hid YI.1;clear YI;have HB1063:=Lib.hid (HBy21.out.kept Xx);clear Xx)|((with_reducible refine aS 19 ?_);refine aj rfl 98 rfl _ (dM.out _) ?_;have AU:=Lib.hid (HB1063.out.alloc (arr .i64 ze) 98);generalize w1063.heap.size=Y6 at AU ⊢; generalize w1063.alloc (.cells (arr .i64 ze) 98)=w1064 at AU ⊢; clear HB1063)|((with_reducible refine aT 19 (x:=(Operand.tmp 79)) ?_);refine ah rfl 98 _ _ rfl (Y6) _ _ 98 (AU.out.get 15 rfl) rfl rfl (ay _ _ E8.out dB.out) (cO E8.out) (av _ _) ?_;intro w1065 Xw Wp hz1065;have FK:=Lib.hid (AU.out.put 15 rfl Wp Xw);clear Xw Wp hz1065;clear AU))
  go_upto_region 24 with (first|((with_reducible refine aS 80 ?_);refine ak rfl 98 _ rfl (gy20) (0) _ 98 (0,0) _ (FK.out.get 13 rfl) rfl .i64 xy20 (au _ _) Tryd.underlying98 rfl (bI HLy20.out) ?_)|((with_reducible refine aS 81 ?_);refine ak rfl 98 _ rfl (gy21) (0) _ 98 (0,0) _ (FK.out.get 14 rfl) rfl .i64 xy21 (au _ _) Tryd.underlying98 rfl (bI HLy21.out) ?_)|((with_reducible show Calls _ 78 #[.agg _, .agg _] _ _);go_at_call 78; refine (je _ _ _ _ _ HXy20.out HXy21.out).mono ?_;rintro e w1066 ⟨z1066,rfl,YH,Xv⟩;have ZR:=Lib.hid YH;have E5:=Lib.hid YH.1;clear YH;have HB1066:=Lib.hid (FK.out.kept Xv);clear Xv;clear FK)|((with_reducible refine aS 20 ?_);refine aj rfl 98 rfl _ (dM.out _) ?_;have AQ:=Lib.hid (HB1066.out.alloc (arr .i64 ze) 98);generalize w1066.heap.size=g1067 at AQ ⊢; generalize w1066.alloc (.cells (arr .i64 ze) 98)=w1067 at AQ ⊢; clear HB1066)|((with_reducible refine aT 20 (x:=(Operand.tmp 82)) ?_);refine ah rfl 98 _ _ rfl (g1067) _ _ 98 (AQ.out.get 16 rfl) rfl rfl (ay _ _ E5.out dB.out) (cO E5.out) (av _ _) ?_;intro w1068 Xu Wo hz1068;have FJ:=Lib.hid (AQ.out.put 16 rfl Wo Xu);clear Xu Wo hz1068;clear AQ))
  go_upto_region 25 with (first|((with_reducible refine aS 83 ?_);refine ak rfl 98 _ rfl (Y6) (0) _ 98 (0,0) _ (FJ.out.get 15 rfl) rfl .i64 z1063 (au _ _) Tryd.underlying98 rfl (bI E8.out) ?_)|((with_reducible refine aS 84 ?_);refine ak rfl 98 _ rfl (Y6) (0) _ 98 (0,0) _ (FJ.out.get 15 rfl) rfl .i64 z1063 (au _ _) Tryd.underlying98 rfl (bI E8.out) ?_)|((with_reducible show Calls _ 68 #[.agg _, .agg _] _ _);go_at_call 68; refine (bJ _ _ _ _ _ ZT.out ZT.out).mono ?_;rintro e w1069 ⟨z1069,rfl,YF,Xt⟩;have ZQ:=Lib.hid YF;have vU:=Lib.hid YF.1;clear YF;have ND:=Lib.hid (FJ.out.kept Xt);clear Xt;clear FJ)|((with_reducible refine aT 8 (x:=(Operand.tmp 85)) ?_);refine ah rfl 98 _ _ rfl (qH) _ _ 98 (ND.out.get 6 rfl) rfl rfl (ay _ _ vU.out HCl.out) (cO vU.out) (av _ _) ?_;intro Tw Xr Wn hz1070;have sG:=Lib.hid (ND.out.put 6 rfl Wn Xr);clear Xr Wn hz1070;clear ND))
  (try simp only [Act.put])
  have dU:=Lib.hid ((Kept.refl (fun x=>x=nV) Tw).drew)
  have dX:=Lib.hid (sG.out.drew)
  refine wp_region_held_drew (S:=(fun w'=>Kept (fun x=>x=nV) Tw w')) (by kernel_rfl) (dU.out) (fun hHeld=>?_)
  generalize Tw.drew=wd at dU dX hHeld ⊢
  refine' wpAnyH_take (i:=0) (oi:=(⟨some 86,_,_,_,_,none⟩:Oper)) (v:=_) rfl (by kernel_rfl) (by kernel_rfl) (by kernel_rfl) (fun _ _ _ h=>h) (yieldsIf_load_mid (by rfl) _ _ rfl _ _ rfl (BP.map (Value.int .i64)) _ ?hS1071 Tryd.underlying98 rfl (by rw [List.length_map];exact bI vV.out)) (by assumption) ?rest1071
  case hS1071=>(intro w hSw;(try dsimp only at hSw);exact aM (hSw.blk (sG.out.get 3 rfl) (sG.out.ne 3 7 rfl rfl (by decide))) 0 _ (by rw [List.length_map];exact au _ _))
  (try simp only [Act.put,sA,sZ,sS])
  refine' wpAnyH_take (i:=1) (oi:=(⟨some 87,_,_,_,_,none⟩:Oper)) (v:=_) rfl (by kernel_rfl) (by kernel_rfl) (by kernel_rfl) (fun _ _ _ h=>h) (yieldsIf_load_mid (by rfl) _ _ rfl _ _ rfl (z1066.map (Value.int .i64)) _ ?hS1072 Tryd.underlying98 rfl (by rw [List.length_map];exact bI E5.out)) (by assumption) ?rest1072
  case hS1072=>(intro w hSw;(try dsimp only at hSw);exact aM (hSw.blk (sG.out.get 16 rfl) (sG.out.ne 16 7 rfl rfl (by decide))) 0 _ (by rw [List.length_map];exact au _ _))
  (try simp only [Act.put,sA,sZ,sS])
  refine' wpAnyH_take (i:=2) (oi:=(⟨some 88,_,_,_,_,none⟩:Oper)) (v:=_) rfl (by kernel_rfl) (by kernel_rfl) (by kernel_rfl) (fun _ _ _ h=>h) (yieldsIf_load_mid (by rfl) _ _ rfl _ _ rfl (z1066.map (Value.int .i64)) _ ?hS1073 Tryd.underlying98 rfl (by rw [List.length_map];exact bI E5.out)) (by assumption) ?rest1073
  case hS1073=>(intro w hSw;(try dsimp only at hSw);exact aM (hSw.blk (sG.out.get 16 rfl) (sG.out.ne 16 7 rfl rfl (by decide))) 0 _ (by rw [List.length_map];exact au _ _))
  (try simp only [Act.put,sA,sZ,sS])
  refine wpAnyH_ready (rs:=[3]) (by kernel_rfl) (by simp) ?_
  refine AllReadyH.cons (o:=(⟨some 89,_,_,_,_,none⟩:Oper)) rfl (fun K hK=>?_) AllReadyH.nil
  go_simp
  go_at_call 68
  refine (bJ _ _ _ _ _ ZR.out ZR.out).mono ?_
  rintro e w1074 ⟨z1074,rfl,YE,Lb⟩
  have HZ1074:=Lib.hid YE
  have HL1074:=Lib.hid YE.1
  clear YE
  have HB1074:=Lib.hid (dX.out.kept Lb)
  have Nc:=Lib.hid (dU.out.trans (Kept.of_below Lb))
  clear Lb
  (try dsimp only)
  clear dX
  clear dU
  clear hHeld
  refine hK.out _ _ (Nc.out) (fun hHeld=>?_)
  clear hK K
  (try simp only [Act.put,sA,sZ,sS])
  refine wpAnyH_ready (rs:=[4]) (by kernel_rfl) (by simp) ?_
  refine AllReadyH.cons (o:=(⟨some 90,_,_,_,_,none⟩:Oper)) rfl (fun K hK=>?_) AllReadyH.nil
  go_simp
  go_at_call 68
  refine (bJ _ _ _ _ _ Z0.out HZ1074.out).mono ?_
  rintro e w1075 ⟨z1075,rfl,YD,K9⟩
  have ZP:=Lib.hid YD
  have vT:=Lib.hid YD.1
  clear YD
  have NC:=Lib.hid (HB1074.out.kept K9)
  have Nb:=Lib.hid (Nc.out.trans (Kept.of_below K9))
  clear K9
  (try dsimp only)
  clear HB1074
  clear Nc
  clear hHeld
  refine hK.out _ _ (Nb.out) (fun hHeld=>?_)
  clear hK K
  (try simp only [Act.put,sA,sZ,sS])
  refine wpAnyH_ready (rs:=[5]) (by kernel_rfl) (by simp) ?_
  refine AllReadyH.cons (o:=(⟨none,_,_,_,_,none⟩:Oper)) rfl (fun K hK=>?_) AllReadyH.nil
  refine aD rfl 98 (.tmp 9) (.tmp 90) rfl (nV) _ _ _ (NC.out.get 7 rfl) rfl rfl (ay _ _ vT.out HDl.out) (cO vT.out) (av _ _) ?_
  intro w1076 Xq Kv hz1076
  have FI:=Lib.hid (NC.out.put 7 rfl Kv Xq)
  have HK1076:=Lib.hid (Nb.out.trans Kv)
  clear Xq Kv hz1076
  clear NC
  clear Nb
  clear hHeld
  refine hK.out _ _ (HK1076.out) (fun hHeld=>?_)
  clear hK K
  (try simp only [Act.put])
  refine wpAnyH_done (by kernel_rfl) ?_ _
  (try simp only [Exit.then])
  go_upto_region 27 with (first|((with_reducible refine aS 91 ?_);refine ak rfl 98 _ rfl (Ht) (0) _ 98 (0,0) _ (FI.out.get 9 rfl) rfl .i64 Gc (au _ _) Tryd.underlying98 rfl (bI Aq.out) ?_)|((with_reducible refine aS 92 ?_);refine ak rfl 98 _ rfl (Hq) (0) _ 98 (0,0) _ (FI.out.get 11 rfl) rfl .i64 NW (au _ _) Tryd.underlying98 rfl (bI Fa.out) ?_)|((with_reducible show Calls _ 68 #[.agg _, .agg _] _ _);go_at_call 68; refine (bJ _ _ _ _ _ Mv.out ZY.out).mono ?_;rintro e w1077 ⟨z1077,rfl,YC,Xp⟩;have ZO:=Lib.hid YC;have vS:=Lib.hid YC.1;clear YC;have NA:=Lib.hid (FI.out.kept Xp);clear Xp;clear FI)|((with_reducible refine aT 6 (x:=(Operand.tmp 93)) ?_);refine ah rfl 98 _ _ rfl (nX) _ _ 98 (NA.out.get 4 rfl) rfl rfl (ay _ _ vS.out HAl.out) (cO vS.out) (av _ _) ?_;intro Tv Xo Wm hz1078;have sF:=Lib.hid (NA.out.put 4 rfl Wm Xo);clear Xo Wm hz1078;clear NA))
  (try simp only [Act.put])
  have dU:=Lib.hid ((Kept.refl (fun x=>x=lK) Tv).drew)
  have dX:=Lib.hid (sF.out.drew)
  refine wp_region_held_drew (S:=(fun w'=>Kept (fun x=>x=lK) Tv w')) (by kernel_rfl) (dU.out) (fun hHeld=>?_)
  generalize Tv.drew=wd at dU dX hHeld ⊢
  refine' wpAnyH_take (i:=0) (oi:=(⟨some 94,_,_,_,_,none⟩:Oper)) (v:=_) rfl (by kernel_rfl) (by kernel_rfl) (by kernel_rfl) (fun _ _ _ h=>h) (yieldsIf_load_mid (by rfl) _ _ rfl _ _ rfl (NV.map (Value.int .i64)) _ ?hS1079 Tryd.underlying98 rfl (by rw [List.length_map];exact bI E9.out)) (by assumption) ?rest1079
  case hS1079=>(intro w hSw;(try dsimp only at hSw);exact aM (hSw.blk (sF.out.get 12 rfl) (sF.out.ne 12 5 rfl rfl (by decide))) 0 _ (by rw [List.length_map];exact au _ _))
  (try simp only [Act.put,sA,sZ,sS])
  refine' wpAnyH_take (i:=1) (oi:=(⟨some 95,_,_,_,_,none⟩:Oper)) (v:=_) rfl (by kernel_rfl) (by kernel_rfl) (by kernel_rfl) (fun _ _ _ h=>h) (yieldsIf_load_mid (by rfl) _ _ rfl _ _ rfl (Gc.map (Value.int .i64)) _ ?hS1080 Tryd.underlying98 rfl (by rw [List.length_map];exact bI Aq.out)) (by assumption) ?rest1080
  case hS1080=>(intro w hSw;(try dsimp only at hSw);exact aM (hSw.blk (sF.out.get 9 rfl) (sF.out.ne 9 5 rfl rfl (by decide))) 0 _ (by rw [List.length_map];exact au _ _))
  (try simp only [Act.put,sA,sZ,sS])
  refine' wpAnyH_take (i:=3) (oi:=(⟨some 97,_,_,_,_,none⟩:Oper)) (v:=_) rfl (by kernel_rfl) (by kernel_rfl) (by kernel_rfl) (fun _ _ _ h=>h) (yieldsIf_load_mid (by rfl) _ _ rfl _ _ rfl (NV.map (Value.int .i64)) _ ?hS1081 Tryd.underlying98 rfl (by rw [List.length_map];exact bI E9.out)) (by assumption) ?rest1081
  case hS1081=>(intro w hSw;(try dsimp only at hSw);exact aM (hSw.blk (sF.out.get 12 rfl) (sF.out.ne 12 5 rfl rfl (by decide))) 0 _ (by rw [List.length_map];exact au _ _))
  (try simp only [Act.put,sA,sZ,sS])
  refine wpAnyH_ready (rs:=[2]) (by kernel_rfl) (by simp) ?_
  refine AllReadyH.cons (o:=(⟨some 96,_,_,_,_,none⟩:Oper)) rfl (fun K hK=>?_) AllReadyH.nil
  go_simp
  go_at_call 71
  refine (fO 121665 _ (by decide)).mono ?_
  rintro e w1082 ⟨z1082,rfl,YA,KZ⟩
  have HZ1082:=Lib.hid YA
  have HL1082:=Lib.hid YA.1
  clear YA
  have HB1082:=Lib.hid (dX.out.kept KZ)
  have Na:=Lib.hid (dU.out.trans (Kept.of_below KZ))
  clear KZ
  (try dsimp only)
  clear dX
  clear dU
  clear hHeld
  refine hK.out _ _ (Na.out) (fun hHeld=>?_)
  clear hK K
  (try simp only [Act.put,sA,sZ,sS])
  refine wpAnyH_ready (rs:=[4]) (by kernel_rfl) (by simp) ?_
  refine AllReadyH.cons (o:=(⟨some 98,_,_,_,_,none⟩:Oper)) rfl (fun K hK=>?_) AllReadyH.nil
  go_simp
  go_at_call 68
  refine (bJ _ _ _ _ _ HZ1082.out ZW.out).mono ?_
  rintro e w1083 ⟨z1083,rfl,Yz,KY⟩
  have HZ1083:=Lib.hid Yz
  have HL1083:=Lib.hid Yz.1
  clear Yz
  have HB1083:=Lib.hid (HB1082.out.kept KY)
  have M9:=Lib.hid (Na.out.trans (Kept.of_below KY))
  clear KY
  (try dsimp only)
  clear HB1082
  clear Na
  clear hHeld
  refine hK.out _ _ (M9.out) (fun hHeld=>?_)
  clear hK K
  (try simp only [Act.put,sA,sZ,sS])
  refine wpAnyH_ready (rs:=[5]) (by kernel_rfl) (by simp) ?_
  refine AllReadyH.cons (o:=(⟨some 99,_,_,_,_,none⟩:Oper)) rfl (fun K hK=>?_) AllReadyH.nil
  go_simp
  go_at_call 77
  refine (iR _ _ _ _ _ Mv.out HZ1083.out).mono ?_
  rintro e w1084 ⟨z1084,rfl,Yy,KX⟩
  have HZ1084:=Lib.hid Yy
  have HL1084:=Lib.hid Yy.1
  clear Yy
  have HB1084:=Lib.hid (HB1083.out.kept KX)
  have M8:=Lib.hid (M9.out.trans (Kept.of_below KX))
  clear KX
  (try dsimp only)
  clear HB1083
  clear M9
  clear hHeld
  refine hK.out _ _ (M8.out) (fun hHeld=>?_)
  clear hK K
  (try simp only [Act.put,sA,sZ,sS])
  refine wpAnyH_ready (rs:=[6]) (by kernel_rfl) (by simp) ?_
  refine AllReadyH.cons (o:=(⟨some 100,_,_,_,_,none⟩:Oper)) rfl (fun K hK=>?_) AllReadyH.nil
  go_simp
  go_at_call 68
  refine (bJ _ _ _ _ _ ZW.out HZ1084.out).mono ?_
  rintro e w1085 ⟨z1085,rfl,Yx,KW⟩
  have ZN:=Lib.hid Yx
  have vR:=Lib.hid Yx.1
  clear Yx
  have Nz:=Lib.hid (HB1084.out.kept KW)
  have M7:=Lib.hid (M8.out.trans (Kept.of_below KW))
  clear KW
  (try dsimp only)
  clear HB1084
  clear M8
  clear hHeld
  refine hK.out _ _ (M7.out) (fun hHeld=>?_)
  clear hK K
  (try simp only [Act.put,sA,sZ,sS])
  refine wpAnyH_ready (rs:=[7]) (by kernel_rfl) (by simp) ?_
  refine AllReadyH.cons (o:=(⟨none,_,_,_,_,none⟩:Oper)) rfl (fun K hK=>?_) AllReadyH.nil
  refine aD rfl 98 (.tmp 7) (.tmp 100) rfl (lK) _ _ _ (Nz.out.get 5 rfl) rfl rfl (ay _ _ vR.out HBl.out) (cO vR.out) (av _ _) ?_
  intro w1086 Xn Ku hz1086
  have wC:=Lib.hid (Nz.out.put 5 rfl Ku Xn)
  have HK1086:=Lib.hid (M7.out.trans Ku)
  clear Xn Ku hz1086
  clear Nz
  clear M7
  clear hHeld
  refine hK.out _ _ (HK1086.out) (fun hHeld=>?_)
  clear hK K
  (try simp only [Act.put])
  refine wpAnyH_done (by kernel_rfl) ?_ _
  (try simp only [Exit.then])
  rcases hb with rfl|rfl
  ·have hbv:(((0:Nat):Int) == 1)=false:=rfl
   go_wp2_with fail
   go_roundw
   case rel =>
    have e:=HI.out
    exact ⟨n+1,by omega,by congr 1;omega,_,_,_,_,by rw [Jf.out];exact ZO.out,by rw [Jf.out];exact ZN.out,by rw [Jf.out];exact ZQ.out,by rw [Jf.out];exact ZP.out,wC.out.less 8⟩
   case measure=>simp [intOf]
  ·have hbv:(((1:Nat):Int) == 1)=true:=rfl
   go_upto_region 30 with (first|((with_reducible refine aS 103 ?_);refine ak rfl 98 _ rfl (qH) (0) _ 98 (0,0) _ (wC.out.get 6 rfl) rfl .i64 z1069 (au _ _) Tryd.underlying98 rfl (bI vU.out) ?_)|((with_reducible refine aS 104 ?_);refine ak rfl 98 _ rfl (nX) (0) _ 98 (0,0) _ (wC.out.get 4 rfl) rfl .i64 z1077 (au _ _) Tryd.underlying98 rfl (bI vS.out) ?_)|((with_reducible refine aT 6 (x:=(Operand.tmp 103)) ?_);refine ah rfl 98 _ _ rfl (nX) _ _ 98 (wC.out.get 4 rfl) rfl rfl (ay _ _ vU.out vS.out) (cO vU.out) (av _ _) ?_;intro w1087 Xm Wl hz1087;have Ny:=Lib.hid (wC.out.put 4 rfl Wl Xm);clear Xm Wl hz1087;clear wC)|((with_reducible refine aT 8 (x:=(Operand.tmp 104)) ?_);refine ah rfl 98 _ _ rfl (qH) _ _ 98 (Ny.out.get 6 rfl) rfl rfl (ay _ _ vS.out vU.out) (cO vS.out) (av _ _) ?_;intro w1088 Xl Wj hz1088;have AP:=Lib.hid (Ny.out.put 6 rfl Wj Xl);clear Xl Wj hz1088;clear Ny))
   go_wp2_with (first|((with_reducible refine aS 105 ?_);refine ak rfl 98 _ rfl (nV) (0) _ 98 (0,0) _ (AP.out.get 7 rfl) rfl .i64 z1075 (au _ _) Tryd.underlying98 rfl (bI vT.out) ?_)|((with_reducible refine aS 106 ?_);refine ak rfl 98 _ rfl (lK) (0) _ 98 (0,0) _ (AP.out.get 5 rfl) rfl .i64 z1085 (au _ _) Tryd.underlying98 rfl (bI vR.out) ?_)|((with_reducible refine aT 7 (x:=(Operand.tmp 105)) ?_);refine ah rfl 98 _ _ rfl (lK) _ _ 98 (AP.out.get 5 rfl) rfl rfl (ay _ _ vT.out vR.out) (cO vT.out) (av _ _) ?_;intro w1089 Xk Wi hz1089;have Nw:=Lib.hid (AP.out.put 5 rfl Wi Xk);clear Xk Wi hz1089;clear AP)|((with_reducible refine aT 9 (x:=(Operand.tmp 106)) ?_);refine ah rfl 98 _ _ rfl (nV) _ _ 98 (Nw.out.get 7 rfl) rfl rfl (ay _ _ vR.out vT.out) (cO vR.out) (av _ _) ?_;intro w1090 Xj Wh hz1090;have HB1090:=Lib.hid (Nw.out.put 7 rfl Wh Xj);clear Xj Wh hz1090;clear Nw))
   go_roundw
   case rel =>
    have e:=HI.out
    exact ⟨n+1,by omega,by congr 1;omega,_,_,_,_,by rw [Jf.out];exact ZQ.out,by rw [Jf.out];exact ZP.out,by rw [Jf.out];exact ZO.out,by rw [Jf.out];exact ZN.out,HB1090.out.less 8⟩
   case measure=>simp [intOf]
 ·obtain rfl:n=255:=by omega
  have hz:(254:Int) - ((255:Nat):Int) = -1:=by omega
  rw [hz]
  have hout:=fun xs w (h:El xs (aA (Ej X K 255).a (finv (Ej X K 255).b)))=>nD xs _ w h
  obtain ⟨ro,hro⟩:∃ x,x=aW (bD 256 32 (aA (Ej X K 255).a (finv (Ej X K 255).b))):=⟨_,rfl⟩
  have iK:Hid (ro.length=32):=Lib.hid (by rw [hro,aH,aI])
  rw [← hro] at hout
  have HOUT:=Lib.hid hout
  have HRO:=Lib.hid hro
  clear hz hout hro
  go_upto_region 31 with fail
  have dU:=Lib.hid ((Kept.refl (fun x=>x=w.heap.size+1+1) wr).drew)
  have dX:=Lib.hid (HB.out.drew)
  refine wp_region_held_drew (S:=(fun w'=>Kept (fun x=>x=w.heap.size+1+1) wr w')) (by kernel_rfl) (dU.out) (fun hHeld=>?_)
  generalize wr.drew=wd at dU dX hHeld ⊢
  refine' wpAnyH_take (i:=0) (oi:=(⟨some 107,_,_,_,_,none⟩:Oper)) (v:=_) rfl (by kernel_rfl) (by kernel_rfl) (by kernel_rfl) (fun _ _ _ h=>h) (yieldsIf_load_mid (by rfl) _ _ rfl _ _ rfl (la.map (Value.int .i64)) _ ?hS1091 Tryd.underlying98 rfl (by rw [List.length_map];exact bI HAl.out)) (by assumption) ?rest1091
  case hS1091=>(intro w hSw;(try dsimp only at hSw);exact aM (hSw.blk (HB.out.get 4 rfl) (HB.out.ne 4 2 rfl rfl (by decide))) 0 _ (by rw [List.length_map];exact au _ _))
  (try simp only [Act.put,sA,sZ,sS])
  refine' wpAnyH_take (i:=1) (oi:=(⟨some 108,_,_,_,_,none⟩:Oper)) (v:=_) rfl (by kernel_rfl) (by kernel_rfl) (by kernel_rfl) (fun _ _ _ h=>h) (yieldsIf_load_mid (by rfl) _ _ rfl _ _ rfl (lb.map (Value.int .i64)) _ ?hS1092 Tryd.underlying98 rfl (by rw [List.length_map];exact bI HBl.out)) (by assumption) ?rest1092
  case hS1092=>(intro w hSw;(try dsimp only at hSw);exact aM (hSw.blk (HB.out.get 5 rfl) (HB.out.ne 5 2 rfl rfl (by decide))) 0 _ (by rw [List.length_map];exact au _ _))
  (try simp only [Act.put,sA,sZ,sS])
  refine wpAnyH_ready (rs:=[2]) (by kernel_rfl) (by simp) ?_
  refine AllReadyH.cons (o:=(⟨some 109,_,_,_,_,none⟩:Oper)) rfl (fun K hK=>?_) AllReadyH.nil
  go_simp
  go_at_call 66
  refine (Er _ _ _ HBe.out).mono ?_
  rintro e w1093 ⟨z1093,rfl,Yu,KV⟩
  have HZ1093:=Lib.hid Yu
  have HL1093:=Lib.hid Yu.1
  clear Yu
  have HB1093:=Lib.hid (dX.out.kept KV)
  have M6:=Lib.hid (dU.out.trans (Kept.of_below KV))
  clear KV
  (try dsimp only)
  clear dX
  clear dU
  clear hHeld
  refine hK.out _ _ (M6.out) (fun hHeld=>?_)
  clear hK K
  (try simp only [Act.put,sA,sZ,sS])
  refine wpAnyH_ready (rs:=[3]) (by kernel_rfl) (by simp) ?_
  refine AllReadyH.cons (o:=(⟨some 110,_,_,_,_,none⟩:Oper)) rfl (fun K hK=>?_) AllReadyH.nil
  go_simp
  go_at_call 68
  refine (bJ _ _ _ _ _ HAe.out HZ1093.out).mono ?_
  rintro e w1094 ⟨z1094,rfl,Yt,KU⟩
  have HZ1094:=Lib.hid Yt
  have HL1094:=Lib.hid Yt.1
  clear Yt
  have HB1094:=Lib.hid (HB1093.out.kept KU)
  have M4:=Lib.hid (M6.out.trans (Kept.of_below KU))
  clear KU
  (try dsimp only)
  clear HB1093
  clear M6
  clear hHeld
  refine hK.out _ _ (M4.out) (fun hHeld=>?_)
  clear hK K
  (try simp only [Act.put,sA,sZ,sS])
  refine wpAnyH_ready (rs:=[4]) (by kernel_rfl) (by simp) ?_
  refine AllReadyH.cons (o:=(⟨some 111,_,_,_,_,none⟩:Oper)) rfl (fun K hK=>?_) AllReadyH.nil
  go_simp
  go_at_call 67
  refine (HOUT.out _ _ HZ1094.out).mono ?_
  rintro e w1095 ⟨rfl,KT⟩
  have Nv:=Lib.hid (HB1094.out.kept KT)
  have MZ:=Lib.hid (M4.out.trans (Kept.of_below KT))
  clear KT
  (try dsimp only)
  clear HB1094
  clear M4
  clear hHeld
  refine hK.out _ _ (MZ.out) (fun hHeld=>?_)
  clear hK K
  (try simp only [Act.put,sA,sZ,sS])
  refine wpAnyH_ready (rs:=[5]) (by kernel_rfl) (by simp) ?_
  refine AllReadyH.cons (o:=(⟨none,_,_,_,_,none⟩:Oper)) rfl (fun K hK=>?_) AllReadyH.nil
  refine aD rfl 23 (.tmp 4) (.tmp 111) rfl (w.heap.size+1+1) _ _ _ (Nv.out.get 2 rfl) rfl rfl (ay _ _ iK.out cB.out) (bE iK.out) (av _ _) ?_
  intro w1096 Xi Kt hz1096
  have HB1096:=Lib.hid (Nv.out.put 2 rfl Kt Xi)
  have HK1096:=Lib.hid (MZ.out.trans Kt)
  clear Xi Kt hz1096
  clear Nv
  clear MZ
  clear hHeld
  refine hK.out _ _ (HK1096.out) (fun hHeld=>?_)
  clear hK K
  (try simp only [Act.put])
  refine wpAnyH_done (by kernel_rfl) ?_ _
  have qK:=HB1096
  (try simp only [Exit.then])
  go_wp2_with fail
  refine bodyPost_ret (results_cell_row rfl _ _ (w.heap.size+1+1) 23 _ (0,0) _ rfl (qK.out.get 2 rfl) Tryd.underlying23 rfl (bE iK.out)) rfl ?_
  exact ⟨by rw [HRO.out],qK.out.below⟩
end Go.Proofs.YthdgbgleklkaiaaDoor.Rd
