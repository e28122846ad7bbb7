/- The document's Ladder. Condition: as each theorem says. -/

import Derived.Test.YthdgbgleklkaiaaGreatDoorQc20
open Go.Lib renaming hid→abC
open List renaming length_map→abD
open BitVec renaming ofInt→abE
set_option linter.unusedSimpArgs false
set_option linter.unusedVariables false
set_option maxRecDepth 100000
set_option maxHeartbeats 16000000
namespace Go.Proofs.YthdgbgleklkaiaaGreatDoor.Rd
open Go.RowKit Lm Fp Cu
theorem NC (w:World):(Instr.build 125 #[]).run Tryz.prog w = .ok (.agg (arr .i64 (List.replicate 16 0))) w:=by kernel_rfl
theorem and127f (t:Nat) (h:t < 256):bits .and .u8 (t:Int) 127=((t % 128:Nat):Int):=by
 have e:t &&& 127=t % 128:=Nat.and_two_pow_sub_one_eq_mod t 7
 have h1:(abE 8 (t:Int)).toNat=t:=by rw [BitVec.ofInt_natCast,BitVec.toNat_ofNat];exact Nat.mod_eq_of_lt (by omega)
 have h2:(abE 8 (127:Int)).toNat=127:=by decide
 show IntKind.u8.wrap ((abE 8 (t:Int) &&& abE 8 (127:Int)).toNat:Int)=_
 rw [BitVec.toNat_and,h1,h2,e,IntKind.wrap_u8]
 omega
theorem Xm (x k n:Nat):FN x k (n+1)=(lU x ((FN x k n).swap (k / 2 ^ (254 - n) % 2))).swap (k / 2 ^ (254 - n) % 2):=rfl
theorem Af (k u:Nat) (w:World) (hk:k < 2 ^ 256) (hu:u < 2 ^ 256) :
  Calls Tryz.prog 99 #[.agg (arr .u8 (aW (bD 256 32 k))), .agg (arr .u8 (aW (bD 256 32 u)))] w fun e w'=>e = .returned (.agg (arr .u8 (aW (bD 256 32 (bZ k u)))))∧Below w.heap.size w w':=by
 have hcl:=fun w=>wW k w hk
 obtain ⟨t1,t2⟩:=oU u hu
 have hds:=QJ u hu
 have hy2:u % 2 ^ 255 < 2 ^ 255:=Nat.mod_lt _ (by decide)
 have hin:=fun w=>Lp (u % 2 ^ 255) w (Nat.lt_of_lt_of_le hy2 (by decide))
 have Na:(aW (bD 256 32 u)).getD 31 0=((u / 256 ^ 31:Nat):Int):=by rw [bH,t1]
 have hn2:(aW (bD 256 32 u)).set 31 ((u / 256 ^ 31 % 128:Nat):Int)=aW (bD 256 32 (u % 2 ^ 255)):=by rw [← cZ,hds]
 have ha:=and127f (u / 256 ^ 31) t2
 generalize u / 256 ^ 31=t at Na hn2 ha t2
 obtain ⟨K,hK⟩:∃ K,K=clamp k:=⟨_,rfl⟩
 obtain ⟨X,hX⟩:∃ X,X=u % 2 ^ 255 % p:=⟨_,rfl⟩
 have hres:bZ k u=aA (FN X K 255).a (finv (FN X K 255).b):=by rw [hK,hX];rfl
 rw [hres]
 rw [← hK] at hcl
 rw [← hX] at hin
 obtain ⟨ks,hks⟩:∃ x,x=aW (bD 256 32 k):=⟨_,rfl⟩
 have lH:Hid (ks.length=32):=abC (by rw [hks,aG,aK])
 obtain ⟨us,Qs⟩:∃ x,x=aW (bD 256 32 u):=⟨_,rfl⟩
 have Ke:Hid (us.length=32):=abC (by rw [Qs,aG,aK])
 obtain ⟨um,hum⟩:∃ x,x=aW (bD 256 32 (u % 2 ^ 255)):=⟨_,rfl⟩
 have HUM:Hid (um.length=32):=abC (by rw [hum,aG,aK])
 obtain ⟨kc,hkc⟩:∃ x,x=aW (bD 256 32 K):=⟨_,rfl⟩
 have HKC:Hid (kc.length=32):=abC (by rw [hkc,aG,aK])
 rw [← hks,← Qs]
 rw [← hks] at hcl
 rw [← hkc] at hcl
 rw [← Qs] at Na hn2
 rw [← hum] at hn2 hin
 have mF:=abC hcl
 have HIN:=abC hin
 have HG:=abC Na
 have HN2:=abC hn2
 have HA:=abC ha
 have HES:=abC hkc
 obtain ⟨ze,iO,dO,dG⟩:=zN gM
 obtain ⟨zn,hzn,dB,dw⟩:=zN zero_num
 have HEz:Hid (El ze 0):=abC (by rw [iO];exact F9)
 have CW:Hid (∀ w,(Instr.build 125 #[]).run Tryz.prog w = .ok (.agg (arr .i64 ze)) w):=abC (by intro w;rw [iO];exact NC w)
 have bW:=abC (bO.three w (arr .u8 ks) (arr .u8 us) (arr .u8 zn) 25 25 25)
 clear iO hzn hcl hds hy2 hin Na hn2 ha hK hX hres hks Qs hum hkc t1 hk hu
 go_enter Tryz.func99, Tryz.ntmps99
 go_upto_region 1 with (first|((with_reducible refine aS 4 ?_);refine ah rfl 25 rfl _ (dB.out _) ?_))
 (try simp only [World.size_alloc,Act.put,sA,sZ,sS])
 generalize (((w.alloc (.cells (arr .u8 ks) 25)).alloc (.cells (arr .u8 us) 25)).alloc (.cells (arr .u8 zn) 25))=wb at bW ⊢
 go_upto_region 2 with (first|((with_reducible refine aS 21 ?_);refine lL rfl rfl (bW.out.get 0 rfl) rfl (aj _ _) Tryz.underlying25 rfl (bU lH.out) ?_)|((with_reducible show Calls _ 129 #[.agg _] _ _);go_at_call 129; refine lC (mF.out _) bW ?_;intro w1001 HB1001)|((with_reducible refine aT 2 (x:=(Operand.tmp 22)) ?_);refine lS rfl rfl HB1001 0 rfl rfl rfl (av _ _ HKC.out lH.out) (bG HKC.out) (ak _ _) ?_;intro w1002 Pg;clear HB1001))
 have q0:=aP (Pg.out.get 1 rfl) 31 (by rw [Ke.out];decide)
 have q1:=aC (Pg.out.get 1 rfl) 31
 rw [HG.out] at q0
 have hb1:=Pg.out.cell 1 rfl 31 (.int .u8 (bits .and .u8 (t:Int) 127))
 have e2:(arr .u8 us).setIfInBounds 31 (.int .u8 (bits .and .u8 (t:Int) 127))=arr .u8 um:=by rw [HA.out,bq,HN2.out]
 have HU1:=abC (hb1.cast (l':=[(w.heap.size,arr .u8 kc, 25),(w.heap.size+1,arr .u8 um, 25),(w.heap.size+1+1,arr .u8 zn, 25)]) (by rw [← e2];rfl))
 clear hb1 e2
 go_upto_region 3 with fail
 clear q0 q1
 generalize w1002.setCell ⟨w.heap.size+1,31,none⟩ (.int .u8 (bits .and .u8 (t:Int) 127))=wu at HU1 ⊢
 go_wp2_with (first|((with_reducible refine aS 27 ?_);refine lL rfl rfl (HU1.out.get 1 rfl) rfl (aj _ _) Tryz.underlying25 rfl (bU HUM.out) ?_)|((with_reducible show Calls _ 141 #[.agg _] _ _);go_at_call 141; refine lZ (HIN.out _) HU1 ?_;intro Ig w1003 Oa HB1003;have wD:=abC Oa.out.1)|((with_reducible refine aS 5 ?_);refine lA rfl rfl (dO.out _) HB1003 ?_;intro QA w1004 HB1004; clear HB1003)|((with_reducible refine aT 5 (x:=(Operand.tmp 28)) ?_);refine lS rfl rfl HB1004 3 rfl rfl rfl (av _ _ wD.out dG.out) (dx wD.out) (ak _ _) ?_;intro w1005 HB1005;clear HB1004)|((with_reducible show Calls _ 134 #[_] _ _);go_at_call 134; refine lZ (gq 1 _ (by decide)) HB1005 ?_;intro z1006 w1006 aaU HB1006;have XQ:=abC aaU.out.1;clear HB1005)|((with_reducible refine aS 6 ?_);refine lA rfl rfl (dO.out _) HB1006 ?_;intro Qz w1007 HB1007; clear HB1006)|((with_reducible refine aT 6 (x:=(Operand.tmp 29)) ?_);refine lS rfl rfl HB1007 4 rfl rfl rfl (av _ _ XQ.out dG.out) (dx XQ.out) (ak _ _) ?_;intro w1008 Cg;clear HB1007)|((with_reducible refine aS 30 ?_);refine wpList_build (by rfl) 125 _ rfl #[] rfl _ (CW.out _) ?_)|((with_reducible refine aS 7 ?_);refine lA rfl rfl (dO.out _) Cg ?_;intro AU w1009 HB1009; clear Cg)|((with_reducible refine aT 7 (x:=(Operand.tmp 30)) ?_);refine lS rfl rfl HB1009 5 rfl rfl rfl (av _ _ dG.out dG.out) (dx dG.out) (ak _ _) ?_;intro w1010 Pf;clear HB1009)|((with_reducible refine aS 31 ?_);refine lL rfl rfl (Pf.out.get 3 rfl) rfl (aj _ _) Tryz.underlying125 rfl (bK wD.out) ?_)|((with_reducible refine aS 8 ?_);refine lA rfl rfl (dO.out _) Pf ?_;intro Qy w1011 HB1011; clear Pf)|((with_reducible refine aT 8 (x:=(Operand.tmp 31)) ?_);refine lS rfl rfl HB1011 6 rfl rfl rfl (av _ _ wD.out dG.out) (dx wD.out) (ak _ _) ?_;intro w1012 HB1012;clear HB1011)|((with_reducible show Calls _ 134 #[_] _ _);go_at_call 134; refine lZ (gq 1 _ (by decide)) HB1012 ?_;intro z1013 w1013 aaS HB1013;have XO:=abC aaS.out.1;clear HB1012)|((with_reducible refine aS 9 ?_);refine lA rfl rfl (dO.out _) HB1013 ?_;intro AQ w1014 HB1014; clear HB1013)|((with_reducible refine aT 9 (x:=(Operand.tmp 32)) ?_);refine lS rfl rfl HB1014 7 rfl rfl rfl (av _ _ XO.out dG.out) (dx XO.out) (ak _ _) ?_;intro w1015 HB1015;clear HB1014))
 go_loopw [10] (fun v' wr=>∃ n:Nat,n≤255∧v' = .int .i64 (254 - (n:Int))∧∃ la lb lc ld:List Int,El la (FN X K n).a∧El lb (FN X K n).b∧El lc (FN X K n).c∧El ld (FN X K n).d∧bO w wr [(w.heap.size,arr .u8 kc, 25),(w.heap.size+1,arr .u8 um, 25),(w.heap.size+1+1,arr .u8 zn, 25),(QA,(arr .i64 Ig), 125),(Qz,arr .i64 la, 125),(AU,arr .i64 lb, 125),(Qy,arr .i64 lc, 125),(AQ,arr .i64 ld, 125)]) (fun v' _=>(intOf v'+1).toNat)
 case atStart=>exact ⟨0,Nat.zero_le _,rfl,_,_,_,_,aaU.out,HEz.out,Oa.out,aaS.out,HB1015.out⟩
 case round =>
 obtain ⟨n,hn,rfl,la,lb,lc,ld,h1,h2,h3,h4,hB⟩:=hrel
 have HAe:=abC h1
 have HBe:=abC h2
 have HCe:=abC h3
 have HDe:=abC h4
 have HAl:=abC h1.1
 have HBl:=abC h2.1
 have HCl:=abC h3.1
 have HDl:=abC h4.1
 have HB:=abC hB
 clear h1 h2 h3 h4 hB
 by_cases hlt:n < 255
 ·obtain ⟨i,hi⟩:∃ i:Nat,i+n=254:=⟨254 - n,by omega⟩
  have hz:(254:Int) - (n:Int)=(i:Int):=by omega
  have hi2:i < 256:=by omega
  obtain ⟨y,hy,hy2,hbit⟩:=Bf kc K i HES.out hi2
  have hpn:=Xm X K n
  rw [show 254 - n=i by omega] at hpn
  rw [hz]
  have q0:=aP (HB.out.get 0 rfl) (i / 8) (by rw [HKC.out];omega)
  rw [hy] at q0
  have HI:=abC hi
  clear hy hz hi
  have q9:0≤(i:Int):=by omega
  have hb:=show K / 2 ^ i % 2=0∨K / 2 ^ i % 2=1 by omega
  generalize K / 2 ^ i % 2=b0 at hb hbit hpn
  obtain ⟨S,hS⟩:∃ S,S=(FN X K n).swap b0:=⟨_,rfl⟩
  have Gp:=abC hS
  have Kh:Hid (FN X K (n+1)=(lU X S).swap b0):=abC (by rw [hpn,hS])
  clear hpn hS
  go_upto_if 47 with fail
  clear q0 hbit
  go_cut [] (fun wx=>∃ ta tb tc td:List Int,El ta S.a∧El tb S.b∧El tc S.c∧El td S.d∧bO w wx [(w.heap.size,arr .u8 kc, 25),(w.heap.size+1,arr .u8 um, 25),(w.heap.size+1+1,arr .u8 zn, 25),(QA,(arr .i64 Ig), 125),(Qz,arr .i64 ta, 125),(AU,arr .i64 tb, 125),(Qy,arr .i64 tc, 125),(AQ,arr .i64 td, 125)])
  case first =>
   rcases hb with rfl|rfl
   ·have hbv:(((0:Nat):Int) == 1)=false:=rfl
    go_wp2_with fail
    go_meet
    exact ⟨_,_,_,_,by rw [Gp.out];exact HAe.out,by rw [Gp.out];exact HBe.out,by rw [Gp.out];exact HCe.out,by rw [Gp.out];exact HDe.out,HB.out⟩
   ·have hbv:(((1:Nat):Int) == 1)=true:=rfl
    go_upto_region 14 with (first|((with_reducible refine aS 48 ?_);refine lL rfl rfl (HB.out.get 6 rfl) rfl (aj _ _) Tryz.underlying125 rfl (bK HCl.out) ?_)|((with_reducible refine aS 49 ?_);refine lL rfl rfl (HB.out.get 4 rfl) rfl (aj _ _) Tryz.underlying125 rfl (bK HAl.out) ?_)|((with_reducible refine aT 6 (x:=(Operand.tmp 48)) ?_);refine lS rfl rfl HB 4 rfl rfl rfl (av _ _ HCl.out HAl.out) (dx HCl.out) (ak _ _) ?_;intro w1016 HB1016)|((with_reducible refine aT 8 (x:=(Operand.tmp 49)) ?_);refine lS rfl rfl HB1016 6 rfl rfl rfl (av _ _ HAl.out HCl.out) (dx HAl.out) (ak _ _) ?_;intro w1017 Hz;clear HB1016))
    go_wp2_with (first|((with_reducible refine aS 50 ?_);refine lL rfl rfl (Hz.out.get 7 rfl) rfl (aj _ _) Tryz.underlying125 rfl (bK HDl.out) ?_)|((with_reducible refine aS 51 ?_);refine lL rfl rfl (Hz.out.get 5 rfl) rfl (aj _ _) Tryz.underlying125 rfl (bK HBl.out) ?_)|((with_reducible refine aT 7 (x:=(Operand.tmp 50)) ?_);refine lS rfl rfl Hz 5 rfl rfl rfl (av _ _ HDl.out HBl.out) (dx HDl.out) (ak _ _) ?_;intro w1018 HB1018;clear Hz)|((with_reducible refine aT 9 (x:=(Operand.tmp 51)) ?_);refine lS rfl rfl HB1018 7 rfl rfl rfl (av _ _ HBl.out HDl.out) (dx HBl.out) (ak _ _) ?_;intro w1019 HB1019;clear HB1018))
    go_meet
    exact ⟨_,_,_,_,by rw [Gp.out];exact HCe.out,by rw [Gp.out];exact HDe.out,by rw [Gp.out];exact HAe.out,by rw [Gp.out];exact HBe.out,HB1019.out⟩
  case rest =>
  obtain ⟨wt,rfl⟩:∃ x:World,x=wc:=⟨_,rfl⟩
  obtain ⟨ta,tb,tc,td,h1,h2,h3,h4,h5⟩:=hcut
  clear HAe HBe HCe HDe HAl HBl HCl HDl HB Gp
  have HAe:=abC h1
  have HBe:=abC h2
  have HCe:=abC h3
  have HDe:=abC h4
  have HAl:=abC h1.1
  have HBl:=abC h2.1
  have HCl:=abC h3.1
  have HDl:=abC h4.1
  have HB:=abC h5
  clear h1 h2 h3 h4 h5
  go_upto_region 15 with fail
  go_upto_region 16 with (first|((with_reducible refine aS 52 ?_);refine lL rfl rfl (HB.out.get 4 rfl) rfl (aj _ _) Tryz.underlying125 rfl (bK HAl.out) ?_)|((with_reducible refine aS 53 ?_);refine lL rfl rfl (HB.out.get 5 rfl) rfl (aj _ _) Tryz.underlying125 rfl (bK HBl.out) ?_)|((with_reducible show Calls _ 142 #[.agg _, .agg _] _ _);go_at_call 142; refine lZ (iZ _ _ _ _ _ HAe.out HBe.out) HB ?_;intro Ve w1020 vS HB1020;have BJ:=abC vS.out.1)|((with_reducible refine aS 12 ?_);refine lA rfl rfl (dO.out _) HB1020 ?_;intro g1021 w1021 HB1021; clear HB1020)|((with_reducible refine aT 12 (x:=(Operand.tmp 54)) ?_);refine lS rfl rfl HB1021 8 rfl rfl rfl (av _ _ BJ.out dG.out) (dx BJ.out) (ak _ _) ?_;intro w1022 Hy;clear HB1021))
  go_upto_region 17 with (first|((with_reducible refine aS 55 ?_);refine lL rfl rfl (Hy.out.get 8 rfl) rfl (aj _ _) Tryz.underlying125 rfl (bK BJ.out) ?_)|((with_reducible refine aS 56 ?_);refine lL rfl rfl (Hy.out.get 8 rfl) rfl (aj _ _) Tryz.underlying125 rfl (bK BJ.out) ?_)|((with_reducible show Calls _ 132 #[.agg _, .agg _] _ _);go_at_call 132; refine lZ (bM _ _ _ _ _ vS.out vS.out) Hy ?_;intro Vd w1023 Gl HB1023;have BI:=abC Gl.out.1;clear Hy)|((with_reducible refine aS 13 ?_);refine lA rfl rfl (dO.out _) HB1023 ?_;intro g1024 w1024 HB1024; clear HB1023)|((with_reducible refine aT 13 (x:=(Operand.tmp 57)) ?_);refine lS rfl rfl HB1024 9 rfl rfl rfl (av _ _ BI.out dG.out) (dx BI.out) (ak _ _) ?_;intro w1025 Hw;clear HB1024))
  go_upto_region 18 with (first|((with_reducible refine aS 58 ?_);refine lL rfl rfl (Hw.out.get 4 rfl) rfl (aj _ _) Tryz.underlying125 rfl (bK HAl.out) ?_)|((with_reducible refine aS 59 ?_);refine lL rfl rfl (Hw.out.get 5 rfl) rfl (aj _ _) Tryz.underlying125 rfl (bK HBl.out) ?_)|((with_reducible show Calls _ 143 #[.agg _, .agg _] _ _);go_at_call 143; refine lZ (jm _ _ _ _ _ HAe.out HBe.out) Hw ?_;intro Vb w1026 vR HB1026;have BH:=abC vR.out.1;clear Hw)|((with_reducible refine aS 14 ?_);refine lA rfl rfl (dO.out _) HB1026 ?_;intro g1027 w1027 HB1027; clear HB1026)|((with_reducible refine aT 14 (x:=(Operand.tmp 60)) ?_);refine lS rfl rfl HB1027 10 rfl rfl rfl (av _ _ BH.out dG.out) (dx BH.out) (ak _ _) ?_;intro w1028 Hu;clear HB1027))
  go_upto_region 19 with (first|((with_reducible refine aS 61 ?_);refine lL rfl rfl (Hu.out.get 10 rfl) rfl (aj _ _) Tryz.underlying125 rfl (bK BH.out) ?_)|((with_reducible refine aS 62 ?_);refine lL rfl rfl (Hu.out.get 10 rfl) rfl (aj _ _) Tryz.underlying125 rfl (bK BH.out) ?_)|((with_reducible show Calls _ 132 #[.agg _, .agg _] _ _);go_at_call 132; refine lZ (bM _ _ _ _ _ vR.out vR.out) Hu ?_;intro z1029 w1029 N9 HB1029;have Gw:=abC N9.out.1;clear Hu)|((with_reducible refine aS 15 ?_);refine lA rfl rfl (dO.out _) HB1029 ?_;intro g1030 w1030 HB1030; clear HB1029)|((with_reducible refine aT 15 (x:=(Operand.tmp 63)) ?_);refine lS rfl rfl HB1030 11 rfl rfl rfl (av _ _ Gw.out dG.out) (dx Gw.out) (ak _ _) ?_;intro w1031 Ht;clear HB1030))
  go_upto_region 20 with (first|((with_reducible refine aS 64 ?_);refine lL rfl rfl (Ht.out.get 9 rfl) rfl (aj _ _) Tryz.underlying125 rfl (bK BI.out) ?_)|((with_reducible refine aS 65 ?_);refine lL rfl rfl (Ht.out.get 11 rfl) rfl (aj _ _) Tryz.underlying125 rfl (bK Gw.out) ?_)|((with_reducible show Calls _ 143 #[.agg _, .agg _] _ _);go_at_call 143; refine lZ (jm _ _ _ _ _ Gl.out N9.out) Ht ?_;intro Pk w1032 N8 HB1032;have Gv:=abC N8.out.1;clear Ht)|((with_reducible refine aS 16 ?_);refine lA rfl rfl (dO.out _) HB1032 ?_;intro g1033 w1033 HB1033; clear HB1032)|((with_reducible refine aT 16 (x:=(Operand.tmp 66)) ?_);refine lS rfl rfl HB1033 12 rfl rfl rfl (av _ _ Gv.out dG.out) (dx Gv.out) (ak _ _) ?_;intro CY Hr;clear HB1033))
  (try simp only [Act.put,sA,sZ,sS])
  go_cut [17] (fun us' wx=>∃ gg xx,us' = .pointer (some ⟨gg,0,none⟩)∧El xx (aA (bf S.c S.d) (aL S.a S.b))∧bO w wx [(w.heap.size,arr .u8 kc, 25),(w.heap.size+1,arr .u8 um, 25),(w.heap.size+1+1,arr .u8 zn, 25),(QA,(arr .i64 Ig), 125),(Qz,arr .i64 ta, 125),(AU,arr .i64 tb, 125),(Qy,arr .i64 tc, 125),(AQ,arr .i64 td, 125),(g1021,(arr .i64 Ve), 125),(g1024,(arr .i64 Vd), 125),(g1027,(arr .i64 Vb), 125),(g1030,(arr .i64 z1029), 125),(g1033,(arr .i64 Pk), 125),(gg,arr .i64 xx, 125)])
  case first =>
   have d9:=abC ((Kept.refl (fun _=>False) CY).drew)
   have eF:=abC (Hr.out.drew)
   refine wp_region_held_drew (S:=(fun w'=>Kept (fun _=>False) CY w')) (by kernel_rfl) (d9.out) (fun hHeld=>?_)
   generalize CY.drew=wd at d9 eF hHeld ⊢
   refine' wpAnyH_take (i:=0) (oi:=(⟨some 67,_,_,_,_,none⟩:Oper)) (v:=_) rfl (by kernel_rfl) (by kernel_rfl) (by kernel_rfl) (fun _ _ _ h=>h) (yieldsIf_load_mid (by rfl) _ _ rfl _ _ rfl (tc.map (Value.int .i64)) _ ?hS1035 Tryz.underlying125 rfl (by rw [abD];exact bK HCl.out)) (by assumption) ?rest1035
   case hS1035=>(intro w hSw;(try dsimp only at hSw);exact aO (hSw.blk (Hr.out.get 6 rfl) (fun e=>e.elim)) 0 _ (by rw [abD];exact aj _ _))
   (try simp only [Act.put,sA,sZ,sS])
   refine' wpAnyH_take (i:=1) (oi:=(⟨some 68,_,_,_,_,none⟩:Oper)) (v:=_) rfl (by kernel_rfl) (by kernel_rfl) (by kernel_rfl) (fun _ _ _ h=>h) (yieldsIf_load_mid (by rfl) _ _ rfl _ _ rfl (td.map (Value.int .i64)) _ ?hS1036 Tryz.underlying125 rfl (by rw [abD];exact bK HDl.out)) (by assumption) ?rest1036
   case hS1036=>(intro w hSw;(try dsimp only at hSw);exact aO (hSw.blk (Hr.out.get 7 rfl) (fun e=>e.elim)) 0 _ (by rw [abD];exact aj _ _))
   (try simp only [Act.put,sA,sZ,sS])
   refine' wpAnyH_take (i:=3) (oi:=(⟨some 70,_,_,_,_,none⟩:Oper)) (v:=_) rfl (by kernel_rfl) (by kernel_rfl) (by kernel_rfl) (fun _ _ _ h=>h) (yieldsIf_load_mid (by rfl) _ _ rfl _ _ rfl (Ve.map (Value.int .i64)) _ ?hS1037 Tryz.underlying125 rfl (by rw [abD];exact bK BJ.out)) (by assumption) ?rest1037
   case hS1037=>(intro w hSw;(try dsimp only at hSw);exact aO (hSw.blk (Hr.out.get 8 rfl) (fun e=>e.elim)) 0 _ (by rw [abD];exact aj _ _))
   (try simp only [Act.put,sA,sZ,sS])
   refine wpAnyH_ready (rs:=[2,5]) (by kernel_rfl) (by simp) ?_
   refine AllReadyH.cons (o:=(⟨some 69,_,_,_,_,none⟩:Oper)) rfl (fun K hK=>?_) ?_
   ·go_simp
    go_at_call 143
    refine (jm _ _ _ _ _ HCe.out HDe.out).mono ?_
    rintro e Vr ⟨z1038,rfl,Zu,M7⟩
    have aaQ:=abC Zu
    have HL1038:=abC Zu.1
    clear Zu
    have Hq:=abC (eF.out.kept M7)
    have wK:=abC (d9.out.trans (Kept.of_below M7))
    clear M7
    (try dsimp only)
    clear eF
    clear d9
    clear hHeld
    refine hK.out _ _ (wK.out) (fun hHeld=>?_)
    clear hK K
    (try simp only [Act.put,sA,sZ,sS])
    refine wpAnyH_ready (rs:=[4,5]) (by kernel_rfl) (by simp) ?_
    refine AllReadyH.cons (o:=(⟨some 71,_,_,_,_,none⟩:Oper)) rfl (fun K hK=>?_) ?_
    ·go_simp
     go_at_call 132
     refine (bM _ _ _ _ _ aaQ.out vS.out).mono ?_
     rintro e Vq ⟨z1039,rfl,Zt,M6⟩
     have HZ1039:=abC Zt
     have XK:=abC Zt.1
     clear Zt
     have HB1039:=abC (Hq.out.kept M6)
     have GX:=abC (wK.out.trans (Kept.of_below M6))
     clear M6
     (try dsimp only)
     clear Hq
     clear wK
     clear hHeld
     refine hK.out _ _ (GX.out) (fun hHeld=>?_)
     clear hK K
     (try simp only [Act.put,sA,sZ,sS])
     refine pR 5 ⟨some 17,_,_,_,_,none⟩ (fun K hK=>?_)
     refine bA rfl 125 rfl _ (dO.out _) ?_
     have Cb:=abC (HB1039.out.alloc (arr .i64 ze) 125)
     have GV:=abC (GX.out.alloc (.cells (arr .i64 ze) 125))
     have Jm:=abC (show CY.heap.size≤(Vq).heap.size from GX.out.size)
     generalize (Vq).heap.size=g1040 at Cb Jm ⊢
     generalize (Vq).alloc (.cells (arr .i64 ze) 125)=w1040 at Cb GV ⊢
     clear HB1039
     clear GX
     clear hHeld
     refine hK.out _ _ (GV.out) (fun hHeld=>?_)
     clear hK K
     (try simp only [Act.put,sA,sZ,sS])
     refine pR 6 ⟨none,_,_,_,_,none⟩ (fun K hK=>?_)
     refine aI rfl 125 (.tmp 17) (.tmp 71) rfl (g1040) _ _ _ (Cb.out.get 13 rfl) rfl rfl (av _ _ XK.out dG.out) (dx XK.out) (ak _ _) ?_
     intro w1041 Y1 Mc hz1041
     have HB1041:=abC (Cb.out.put 13 rfl Mc Y1)
     have HK1041:=abC (GV.out.bS Mc (fun i hi e=>absurd hi (by rw [e];exact Nat.not_lt.2 Jm.out)))
     clear Y1 Mc hz1041
     clear Cb
     clear GV
     clear hHeld
     refine hK.out _ _ (HK1041.out) (fun hHeld=>?_)
     clear hK K
     (try simp only [Act.put])
     refine wpAnyH_done (by kernel_rfl) ?_ _
     go_wp2_with fail
     go_meet
     exact ⟨_,_,rfl,HZ1039.out,HB1041.out⟩
    refine AllReadyH.cons (o:=(⟨some 17,_,_,_,_,none⟩:Oper)) rfl (fun K hK=>?_) ?_
    ·refine bA rfl 125 rfl _ (dO.out _) ?_
     have Ho:=abC (Hq.out.alloc (arr .i64 ze) 125)
     have GU:=abC (wK.out.alloc (.cells (arr .i64 ze) 125))
     have Jl:=abC (show CY.heap.size≤(Vr).heap.size from wK.out.size)
     generalize (Vr).heap.size=g1042 at Ho Jl ⊢
     generalize (Vr).alloc (.cells (arr .i64 ze) 125)=w1042 at Ho GU ⊢
     clear Hq
     clear wK
     clear hHeld
     refine hK.out _ _ (GU.out) (fun hHeld=>?_)
     clear hK K
     (try simp only [Act.put,sA,sZ,sS])
     refine pR 4 ⟨some 71,_,_,_,_,none⟩ (fun K hK=>?_)
     go_simp
     go_at_call 132
     refine (bM _ _ _ _ _ aaQ.out vS.out).mono ?_
     rintro e w1043 ⟨z1043,rfl,Zr,M4⟩
     have HZ1043:=abC Zr
     have P6:=abC Zr.1
     clear Zr
     have Pb:=abC (Ho.out.kept M4)
     have OV:=abC (GU.out.trans (Kept.of_below M4))
     clear M4
     (try dsimp only)
     clear Ho
     clear GU
     clear hHeld
     refine hK.out _ _ (OV.out) (fun hHeld=>?_)
     clear hK K
     (try simp only [Act.put,sA,sZ,sS])
     refine pR 6 ⟨none,_,_,_,_,none⟩ (fun K hK=>?_)
     refine aI rfl 125 (.tmp 17) (.tmp 71) rfl (g1042) _ _ _ (Pb.out.get 13 rfl) rfl rfl (av _ _ P6.out dG.out) (dx P6.out) (ak _ _) ?_
     intro w1044 YZ Ma hz1044
     have HB1044:=abC (Pb.out.put 13 rfl Ma YZ)
     have HK1044:=abC (OV.out.bS Ma (fun i hi e=>absurd hi (by rw [e];exact Nat.not_lt.2 Jl.out)))
     clear YZ Ma hz1044
     clear Pb
     clear OV
     clear hHeld
     refine hK.out _ _ (HK1044.out) (fun hHeld=>?_)
     clear hK K
     (try simp only [Act.put])
     refine wpAnyH_done (by kernel_rfl) ?_ _
     go_wp2_with fail
     go_meet
     exact ⟨_,_,rfl,HZ1043.out,HB1044.out⟩
    exact AllReadyH.nil
   refine AllReadyH.cons (o:=(⟨some 17,_,_,_,_,none⟩:Oper)) rfl (fun K hK=>?_) ?_
   ·refine bA rfl 125 rfl _ (dO.out _) ?_
    have Hl:=abC (eF.out.alloc (arr .i64 ze) 125)
    have GQ:=abC (d9.out.alloc (.cells (arr .i64 ze) 125))
    have Jj:=abC (show CY.heap.size≤(wd).heap.size from d9.out.size)
    generalize (wd).heap.size=g1045 at Hl Jj ⊢
    generalize (wd).alloc (.cells (arr .i64 ze) 125)=w1045 at Hl GQ ⊢
    clear eF
    clear d9
    clear hHeld
    refine hK.out _ _ (GQ.out) (fun hHeld=>?_)
    clear hK K
    (try simp only [Act.put,sA,sZ,sS])
    refine pR 2 ⟨some 69,_,_,_,_,none⟩ (fun K hK=>?_)
    go_simp
    go_at_call 143
    refine (jm _ _ _ _ _ HCe.out HDe.out).mono ?_
    rintro e w1046 ⟨z1046,rfl,Zq,MZ⟩
    have HZ1046:=abC Zq
    have HL1046:=abC Zq.1
    clear Zq
    have HB1046:=abC (Hl.out.kept MZ)
    have OU:=abC (GQ.out.trans (Kept.of_below MZ))
    clear MZ
    (try dsimp only)
    clear Hl
    clear GQ
    clear hHeld
    refine hK.out _ _ (OU.out) (fun hHeld=>?_)
    clear hK K
    (try simp only [Act.put,sA,sZ,sS])
    refine pR 4 ⟨some 71,_,_,_,_,none⟩ (fun K hK=>?_)
    go_simp
    go_at_call 132
    refine (bM _ _ _ _ _ HZ1046.out vS.out).mono ?_
    rintro e w1047 ⟨z1047,rfl,Zp,MX⟩
    have HZ1047:=abC Zp
    have P5:=abC Zp.1
    clear Zp
    have O9:=abC (HB1046.out.kept MX)
    have OT:=abC (OU.out.trans (Kept.of_below MX))
    clear MX
    (try dsimp only)
    clear HB1046
    clear OU
    clear hHeld
    refine hK.out _ _ (OT.out) (fun hHeld=>?_)
    clear hK K
    (try simp only [Act.put,sA,sZ,sS])
    refine pR 6 ⟨none,_,_,_,_,none⟩ (fun K hK=>?_)
    refine aI rfl 125 (.tmp 17) (.tmp 71) rfl (g1045) _ _ _ (O9.out.get 13 rfl) rfl rfl (av _ _ P5.out dG.out) (dx P5.out) (ak _ _) ?_
    intro w1048 YX L9 hz1048
    have HB1048:=abC (O9.out.put 13 rfl L9 YX)
    have HK1048:=abC (OT.out.bS L9 (fun i hi e=>absurd hi (by rw [e];exact Nat.not_lt.2 Jj.out)))
    clear YX L9 hz1048
    clear O9
    clear OT
    clear hHeld
    refine hK.out _ _ (HK1048.out) (fun hHeld=>?_)
    clear hK K
    (try simp only [Act.put])
    refine wpAnyH_done (by kernel_rfl) ?_ _
    go_wp2_with fail
    go_meet
    exact ⟨_,_,rfl,HZ1047.out,HB1048.out⟩
   exact AllReadyH.nil
  case rest =>
  obtain ⟨Rz,rfl⟩:∃ x:World,x=wc:=⟨_,rfl⟩
  obtain ⟨gy20,xy20,rfl,h1,hb1⟩:=hcut
  have Rm:=abC hb1
  have HXy20:=abC h1
  have HLy20:=abC h1.1
  clear h1 hb1
  go_upto_region 21 with fail
  go_cut [18] (fun us' wx=>∃ gg xx,us' = .pointer (some ⟨gg,0,none⟩)∧El xx (aA (aL S.c S.d) (bf S.a S.b))∧bO w wx [(w.heap.size,arr .u8 kc, 25),(w.heap.size+1,arr .u8 um, 25),(w.heap.size+1+1,arr .u8 zn, 25),(QA,(arr .i64 Ig), 125),(Qz,arr .i64 ta, 125),(AU,arr .i64 tb, 125),(Qy,arr .i64 tc, 125),(AQ,arr .i64 td, 125),(g1021,(arr .i64 Ve), 125),(g1024,(arr .i64 Vd), 125),(g1027,(arr .i64 Vb), 125),(g1030,(arr .i64 z1029), 125),(g1033,(arr .i64 Pk), 125),(gy20,arr .i64 xy20, 125),(gg,arr .i64 xx, 125)])
  case first =>
   have d9:=abC ((Kept.refl (fun _=>False) Rz).drew)
   have eF:=abC (Rm.out.drew)
   refine wp_region_held_drew (S:=(fun w'=>Kept (fun _=>False) Rz w')) (by kernel_rfl) (d9.out) (fun hHeld=>?_)
   generalize Rz.drew=wd at d9 eF hHeld ⊢
   refine' wpAnyH_take (i:=0) (oi:=(⟨some 72,_,_,_,_,none⟩:Oper)) (v:=_) rfl (by kernel_rfl) (by kernel_rfl) (by kernel_rfl) (fun _ _ _ h=>h) (yieldsIf_load_mid (by rfl) _ _ rfl _ _ rfl (tc.map (Value.int .i64)) _ ?hS1049 Tryz.underlying125 rfl (by rw [abD];exact bK HCl.out)) (by assumption) ?rest1049
   case hS1049=>(intro w hSw;(try dsimp only at hSw);exact aO (hSw.blk (Rm.out.get 6 rfl) (fun e=>e.elim)) 0 _ (by rw [abD];exact aj _ _))
   (try simp only [Act.put,sA,sZ,sS])
   refine' wpAnyH_take (i:=1) (oi:=(⟨some 73,_,_,_,_,none⟩:Oper)) (v:=_) rfl (by kernel_rfl) (by kernel_rfl) (by kernel_rfl) (fun _ _ _ h=>h) (yieldsIf_load_mid (by rfl) _ _ rfl _ _ rfl (td.map (Value.int .i64)) _ ?hS1050 Tryz.underlying125 rfl (by rw [abD];exact bK HDl.out)) (by assumption) ?rest1050
   case hS1050=>(intro w hSw;(try dsimp only at hSw);exact aO (hSw.blk (Rm.out.get 7 rfl) (fun e=>e.elim)) 0 _ (by rw [abD];exact aj _ _))
   (try simp only [Act.put,sA,sZ,sS])
   refine' wpAnyH_take (i:=3) (oi:=(⟨some 75,_,_,_,_,none⟩:Oper)) (v:=_) rfl (by kernel_rfl) (by kernel_rfl) (by kernel_rfl) (fun _ _ _ h=>h) (yieldsIf_load_mid (by rfl) _ _ rfl _ _ rfl (Vb.map (Value.int .i64)) _ ?hS1051 Tryz.underlying125 rfl (by rw [abD];exact bK BH.out)) (by assumption) ?rest1051
   case hS1051=>(intro w hSw;(try dsimp only at hSw);exact aO (hSw.blk (Rm.out.get 10 rfl) (fun e=>e.elim)) 0 _ (by rw [abD];exact aj _ _))
   (try simp only [Act.put,sA,sZ,sS])
   refine wpAnyH_ready (rs:=[2,5]) (by kernel_rfl) (by simp) ?_
   refine AllReadyH.cons (o:=(⟨some 74,_,_,_,_,none⟩:Oper)) rfl (fun K hK=>?_) ?_
   ·go_simp
    go_at_call 142
    refine (iZ _ _ _ _ _ HCe.out HDe.out).mono ?_
    rintro e Vp ⟨z1052,rfl,Zo,MW⟩
    have aaO:=abC Zo
    have HL1052:=abC Zo.1
    clear Zo
    have Hg:=abC (eF.out.kept MW)
    have wJ:=abC (d9.out.trans (Kept.of_below MW))
    clear MW
    (try dsimp only)
    clear eF
    clear d9
    clear hHeld
    refine hK.out _ _ (wJ.out) (fun hHeld=>?_)
    clear hK K
    (try simp only [Act.put,sA,sZ,sS])
    refine wpAnyH_ready (rs:=[4,5]) (by kernel_rfl) (by simp) ?_
    refine AllReadyH.cons (o:=(⟨some 76,_,_,_,_,none⟩:Oper)) rfl (fun K hK=>?_) ?_
    ·go_simp
     go_at_call 132
     refine (bM _ _ _ _ _ aaO.out vR.out).mono ?_
     rintro e Vo ⟨z1053,rfl,Zn,MU⟩
     have HZ1053:=abC Zn
     have PX:=abC Zn.1
     clear Zn
     have HB1053:=abC (Hg.out.kept MU)
     have GN:=abC (wJ.out.trans (Kept.of_below MU))
     clear MU
     (try dsimp only)
     clear Hg
     clear wJ
     clear hHeld
     refine hK.out _ _ (GN.out) (fun hHeld=>?_)
     clear hK K
     (try simp only [Act.put,sA,sZ,sS])
     refine pR 5 ⟨some 18,_,_,_,_,none⟩ (fun K hK=>?_)
     refine bA rfl 125 rfl _ (dO.out _) ?_
     have Ca:=abC (HB1053.out.alloc (arr .i64 ze) 125)
     have GL:=abC (GN.out.alloc (.cells (arr .i64 ze) 125))
     have Ji:=abC (show Rz.heap.size≤(Vo).heap.size from GN.out.size)
     generalize (Vo).heap.size=g1054 at Ca Ji ⊢
     generalize (Vo).alloc (.cells (arr .i64 ze) 125)=w1054 at Ca GL ⊢
     clear HB1053
     clear GN
     clear hHeld
     refine hK.out _ _ (GL.out) (fun hHeld=>?_)
     clear hK K
     (try simp only [Act.put,sA,sZ,sS])
     refine pR 6 ⟨none,_,_,_,_,none⟩ (fun K hK=>?_)
     refine aI rfl 125 (.tmp 18) (.tmp 76) rfl (g1054) _ _ _ (Ca.out.get 14 rfl) rfl rfl (av _ _ PX.out dG.out) (dx PX.out) (ak _ _) ?_
     intro w1055 YW LZ hz1055
     have HB1055:=abC (Ca.out.put 14 rfl LZ YW)
     have HK1055:=abC (GL.out.bS LZ (fun i hi e=>absurd hi (by rw [e];exact Nat.not_lt.2 Ji.out)))
     clear YW LZ hz1055
     clear Ca
     clear GL
     clear hHeld
     refine hK.out _ _ (HK1055.out) (fun hHeld=>?_)
     clear hK K
     (try simp only [Act.put])
     refine wpAnyH_done (by kernel_rfl) ?_ _
     go_wp2_with fail
     go_meet
     exact ⟨_,_,rfl,HZ1053.out,HB1055.out⟩
    refine AllReadyH.cons (o:=(⟨some 18,_,_,_,_,none⟩:Oper)) rfl (fun K hK=>?_) ?_
    ·refine bA rfl 125 rfl _ (dO.out _) ?_
     have Hf:=abC (Hg.out.alloc (arr .i64 ze) 125)
     have GK:=abC (wJ.out.alloc (.cells (arr .i64 ze) 125))
     have Jh:=abC (show Rz.heap.size≤(Vp).heap.size from wJ.out.size)
     generalize (Vp).heap.size=g1056 at Hf Jh ⊢
     generalize (Vp).alloc (.cells (arr .i64 ze) 125)=w1056 at Hf GK ⊢
     clear Hg
     clear wJ
     clear hHeld
     refine hK.out _ _ (GK.out) (fun hHeld=>?_)
     clear hK K
     (try simp only [Act.put,sA,sZ,sS])
     refine pR 4 ⟨some 76,_,_,_,_,none⟩ (fun K hK=>?_)
     go_simp
     go_at_call 132
     refine (bM _ _ _ _ _ aaO.out vR.out).mono ?_
     rintro e w1057 ⟨z1057,rfl,Zm,MR⟩
     have HZ1057:=abC Zm
     have PV:=abC Zm.1
     clear Zm
     have O8:=abC (Hf.out.kept MR)
     have OQ:=abC (GK.out.trans (Kept.of_below MR))
     clear MR
     (try dsimp only)
     clear Hf
     clear GK
     clear hHeld
     refine hK.out _ _ (OQ.out) (fun hHeld=>?_)
     clear hK K
     (try simp only [Act.put,sA,sZ,sS])
     refine pR 6 ⟨none,_,_,_,_,none⟩ (fun K hK=>?_)
     refine aI rfl 125 (.tmp 18) (.tmp 76) rfl (g1056) _ _ _ (O8.out.get 14 rfl) rfl rfl (av _ _ PV.out dG.out) (dx PV.out) (ak _ _) ?_
     intro w1058 YU LY hz1058
     have HB1058:=abC (O8.out.put 14 rfl LY YU)
     have HK1058:=abC (OQ.out.bS LY (fun i hi e=>absurd hi (by rw [e];exact Nat.not_lt.2 Jh.out)))
     clear YU LY hz1058
     clear O8
     clear OQ
     clear hHeld
     refine hK.out _ _ (HK1058.out) (fun hHeld=>?_)
     clear hK K
     (try simp only [Act.put])
     refine wpAnyH_done (by kernel_rfl) ?_ _
     go_wp2_with fail
     go_meet
     exact ⟨_,_,rfl,HZ1057.out,HB1058.out⟩
    exact AllReadyH.nil
   refine AllReadyH.cons (o:=(⟨some 18,_,_,_,_,none⟩:Oper)) rfl (fun K hK=>?_) ?_
   ·refine bA rfl 125 rfl _ (dO.out _) ?_
    have He:=abC (eF.out.alloc (arr .i64 ze) 125)
    have GJ:=abC (d9.out.alloc (.cells (arr .i64 ze) 125))
    have Jg:=abC (show Rz.heap.size≤(wd).heap.size from d9.out.size)
    generalize (wd).heap.size=g1059 at He Jg ⊢
    generalize (wd).alloc (.cells (arr .i64 ze) 125)=w1059 at He GJ ⊢
    clear eF
    clear d9
    clear hHeld
    refine hK.out _ _ (GJ.out) (fun hHeld=>?_)
    clear hK K
    (try simp only [Act.put,sA,sZ,sS])
    refine pR 2 ⟨some 74,_,_,_,_,none⟩ (fun K hK=>?_)
    go_simp
    go_at_call 142
    refine (iZ _ _ _ _ _ HCe.out HDe.out).mono ?_
    rintro e w1060 ⟨z1060,rfl,Zl,MQ⟩
    have HZ1060:=abC Zl
    have HL1060:=abC Zl.1
    clear Zl
    have HB1060:=abC (He.out.kept MQ)
    have OO:=abC (GJ.out.trans (Kept.of_below MQ))
    clear MQ
    (try dsimp only)
    clear He
    clear GJ
    clear hHeld
    refine hK.out _ _ (OO.out) (fun hHeld=>?_)
    clear hK K
    (try simp only [Act.put,sA,sZ,sS])
    refine pR 4 ⟨some 76,_,_,_,_,none⟩ (fun K hK=>?_)
    go_simp
    go_at_call 132
    refine (bM _ _ _ _ _ HZ1060.out vR.out).mono ?_
    rintro e w1061 ⟨z1061,rfl,Zk,MO⟩
    have HZ1061:=abC Zk
    have PU:=abC Zk.1
    clear Zk
    have O7:=abC (HB1060.out.kept MO)
    have OM:=abC (OO.out.trans (Kept.of_below MO))
    clear MO
    (try dsimp only)
    clear HB1060
    clear OO
    clear hHeld
    refine hK.out _ _ (OM.out) (fun hHeld=>?_)
    clear hK K
    (try simp only [Act.put,sA,sZ,sS])
    refine pR 6 ⟨none,_,_,_,_,none⟩ (fun K hK=>?_)
    refine aI rfl 125 (.tmp 18) (.tmp 76) rfl (g1059) _ _ _ (O7.out.get 14 rfl) rfl rfl (av _ _ PU.out dG.out) (dx PU.out) (ak _ _) ?_
    intro w1062 YT LW hz1062
    have HB1062:=abC (O7.out.put 14 rfl LW YT)
    have HK1062:=abC (OM.out.bS LW (fun i hi e=>absurd hi (by rw [e];exact Nat.not_lt.2 Jg.out)))
    clear YT LW hz1062
    clear O7
    clear OM
    clear hHeld
    refine hK.out _ _ (HK1062.out) (fun hHeld=>?_)
    clear hK K
    (try simp only [Act.put])
    refine wpAnyH_done (by kernel_rfl) ?_ _
    go_wp2_with fail
    go_meet
    exact ⟨_,_,rfl,HZ1061.out,HB1062.out⟩
   exact AllReadyH.nil
  case rest =>
  obtain ⟨wy21,rfl⟩:∃ x:World,x=wc:=⟨_,rfl⟩
  obtain ⟨gy21,xy21,rfl,h1,hb1⟩:=hcut
  have HBy21:=abC hb1
  have HXy21:=abC h1
  have HLy21:=abC h1.1
  clear h1 hb1
  go_upto_region 23 with (first|((with_reducible refine aS 77 ?_);refine lL rfl rfl (HBy21.out.get 13 rfl) rfl (aj _ _) Tryz.underlying125 rfl (bK HLy20.out) ?_)|((with_reducible refine aS 78 ?_);refine lL rfl rfl (HBy21.out.get 14 rfl) rfl (aj _ _) Tryz.underlying125 rfl (bK HLy21.out) ?_)|((with_reducible show Calls _ 142 #[.agg _, .agg _] _ _);go_at_call 142; refine lZ (iZ _ _ _ _ _ HXy20.out HXy21.out) HBy21 ?_;intro z1063 w1063 N7 HB1063;have Gu:=abC N7.out.1)|((with_reducible refine aS 19 ?_);refine lA rfl rfl (dO.out _) HB1063 ?_;intro g1064 w1064 HB1064; clear HB1063)|((with_reducible refine aT 19 (x:=(Operand.tmp 79)) ?_);refine lS rfl rfl HB1064 15 rfl rfl rfl (av _ _ Gu.out dG.out) (dx Gu.out) (ak _ _) ?_;intro w1065 G9;clear HB1064))
  go_upto_region 24 with (first|((with_reducible refine aS 80 ?_);refine lL rfl rfl (G9.out.get 13 rfl) rfl (aj _ _) Tryz.underlying125 rfl (bK HLy20.out) ?_)|((with_reducible refine aS 81 ?_);refine lL rfl rfl (G9.out.get 14 rfl) rfl (aj _ _) Tryz.underlying125 rfl (bK HLy21.out) ?_)|((with_reducible show Calls _ 143 #[.agg _, .agg _] _ _);go_at_call 143; refine lZ (jm _ _ _ _ _ HXy20.out HXy21.out) G9 ?_;intro z1066 w1066 NZ HB1066;have Gt:=abC NZ.out.1;clear G9)|((with_reducible refine aS 20 ?_);refine lA rfl rfl (dO.out _) HB1066 ?_;intro g1067 w1067 HB1067; clear HB1066)|((with_reducible refine aT 20 (x:=(Operand.tmp 82)) ?_);refine lS rfl rfl HB1067 16 rfl rfl rfl (av _ _ Gt.out dG.out) (dx Gt.out) (ak _ _) ?_;intro w1068 G8;clear HB1067))
  go_upto_region 25 with (first|((with_reducible refine aS 83 ?_);refine lL rfl rfl (G8.out.get 15 rfl) rfl (aj _ _) Tryz.underlying125 rfl (bK Gu.out) ?_)|((with_reducible refine aS 84 ?_);refine lL rfl rfl (G8.out.get 15 rfl) rfl (aj _ _) Tryz.underlying125 rfl (bK Gu.out) ?_)|((with_reducible show Calls _ 132 #[.agg _, .agg _] _ _);go_at_call 132; refine lZ (bM _ _ _ _ _ N7.out N7.out) G8 ?_;intro z1069 w1069 NY HB1069;have wC:=abC NY.out.1;clear G8)|((with_reducible refine aT 8 (x:=(Operand.tmp 85)) ?_);refine lS rfl rfl HB1069 6 rfl rfl rfl (av _ _ wC.out HCl.out) (dx wC.out) (ak _ _) ?_;intro Vn rZ;clear HB1069))
  (try simp only [Act.put])
  have d9:=abC ((Kept.refl (fun x=>x=AQ) Vn).drew)
  have eF:=abC (rZ.out.drew)
  refine wp_region_held_drew (S:=(fun w'=>Kept (fun x=>x=AQ) Vn w')) (by kernel_rfl) (d9.out) (fun hHeld=>?_)
  generalize Vn.drew=wd at d9 eF hHeld ⊢
  refine' wpAnyH_take (i:=0) (oi:=(⟨some 86,_,_,_,_,none⟩:Oper)) (v:=_) rfl (by kernel_rfl) (by kernel_rfl) (by kernel_rfl) (fun _ _ _ h=>h) (yieldsIf_load_mid (by rfl) _ _ rfl _ _ rfl (Ig.map (Value.int .i64)) _ ?hS1071 Tryz.underlying125 rfl (by rw [abD];exact bK wD.out)) (by assumption) ?rest1071
  case hS1071=>(intro w hSw;(try dsimp only at hSw);exact aO (hSw.blk (rZ.out.get 3 rfl) (rZ.out.ne 3 7 rfl rfl (by decide))) 0 _ (by rw [abD];exact aj _ _))
  (try simp only [Act.put,sA,sZ,sS])
  refine' wpAnyH_take (i:=1) (oi:=(⟨some 87,_,_,_,_,none⟩:Oper)) (v:=_) rfl (by kernel_rfl) (by kernel_rfl) (by kernel_rfl) (fun _ _ _ h=>h) (yieldsIf_load_mid (by rfl) _ _ rfl _ _ rfl (z1066.map (Value.int .i64)) _ ?hS1072 Tryz.underlying125 rfl (by rw [abD];exact bK Gt.out)) (by assumption) ?rest1072
  case hS1072=>(intro w hSw;(try dsimp only at hSw);exact aO (hSw.blk (rZ.out.get 16 rfl) (rZ.out.ne 16 7 rfl rfl (by decide))) 0 _ (by rw [abD];exact aj _ _))
  (try simp only [Act.put,sA,sZ,sS])
  refine' wpAnyH_take (i:=2) (oi:=(⟨some 88,_,_,_,_,none⟩:Oper)) (v:=_) rfl (by kernel_rfl) (by kernel_rfl) (by kernel_rfl) (fun _ _ _ h=>h) (yieldsIf_load_mid (by rfl) _ _ rfl _ _ rfl (z1066.map (Value.int .i64)) _ ?hS1073 Tryz.underlying125 rfl (by rw [abD];exact bK Gt.out)) (by assumption) ?rest1073
  case hS1073=>(intro w hSw;(try dsimp only at hSw);exact aO (hSw.blk (rZ.out.get 16 rfl) (rZ.out.ne 16 7 rfl rfl (by decide))) 0 _ (by rw [abD];exact aj _ _))
  (try simp only [Act.put,sA,sZ,sS])
  refine pR 3 ⟨some 89,_,_,_,_,none⟩ (fun K hK=>?_)
  go_simp
  go_at_call 132
  refine (bM _ _ _ _ _ NZ.out NZ.out).mono ?_
  rintro e w1074 ⟨z1074,rfl,Zj,MK⟩
  have HZ1074:=abC Zj
  have HL1074:=abC Zj.1
  clear Zj
  have HB1074:=abC (eF.out.kept MK)
  have OL:=abC (d9.out.trans (Kept.of_below MK))
  clear MK
  (try dsimp only)
  clear eF
  clear d9
  clear hHeld
  refine hK.out _ _ (OL.out) (fun hHeld=>?_)
  clear hK K
  (try simp only [Act.put,sA,sZ,sS])
  refine pR 4 ⟨some 90,_,_,_,_,none⟩ (fun K hK=>?_)
  go_simp
  go_at_call 132
  refine (bM _ _ _ _ _ Oa.out HZ1074.out).mono ?_
  rintro e w1075 ⟨z1075,rfl,Zi,MJ⟩
  have aaM:=abC Zi
  have wh:=abC Zi.1
  clear Zi
  have O6:=abC (HB1074.out.kept MJ)
  have OJ:=abC (OL.out.trans (Kept.of_below MJ))
  clear MJ
  (try dsimp only)
  clear HB1074
  clear OL
  clear hHeld
  refine hK.out _ _ (OJ.out) (fun hHeld=>?_)
  clear hK K
  (try simp only [Act.put,sA,sZ,sS])
  refine pR 5 ⟨none,_,_,_,_,none⟩ (fun K hK=>?_)
  refine aI rfl 125 (.tmp 9) (.tmp 90) rfl (AQ) _ _ _ (O6.out.get 7 rfl) rfl rfl (av _ _ wh.out HDl.out) (dx wh.out) (ak _ _) ?_
  intro w1076 YS LV hz1076
  have G7:=abC (O6.out.put 7 rfl LV YS)
  have HK1076:=abC (OJ.out.trans LV)
  clear YS LV hz1076
  clear O6
  clear OJ
  clear hHeld
  refine hK.out _ _ (HK1076.out) (fun hHeld=>?_)
  clear hK K
  (try simp only [Act.put])
  refine wpAnyH_done (by kernel_rfl) ?_ _
  (try simp only [Exit.then])
  go_upto_region 27 with (first|((with_reducible refine aS 91 ?_);refine lL rfl rfl (G7.out.get 9 rfl) rfl (aj _ _) Tryz.underlying125 rfl (bK BI.out) ?_)|((with_reducible refine aS 92 ?_);refine lL rfl rfl (G7.out.get 11 rfl) rfl (aj _ _) Tryz.underlying125 rfl (bK Gw.out) ?_)|((with_reducible show Calls _ 132 #[.agg _, .agg _] _ _);go_at_call 132; refine lZ (bM _ _ _ _ _ Gl.out N9.out) G7 ?_;intro z1077 w1077 NW HB1077;have vZ:=abC NW.out.1;clear G7)|((with_reducible refine aT 6 (x:=(Operand.tmp 93)) ?_);refine lS rfl rfl HB1077 4 rfl rfl rfl (av _ _ vZ.out HAl.out) (dx vZ.out) (ak _ _) ?_;intro Vm rY;clear HB1077))
  (try simp only [Act.put])
  have d9:=abC ((Kept.refl (fun x=>x=AU) Vm).drew)
  have eF:=abC (rY.out.drew)
  refine wp_region_held_drew (S:=(fun w'=>Kept (fun x=>x=AU) Vm w')) (by kernel_rfl) (d9.out) (fun hHeld=>?_)
  generalize Vm.drew=wd at d9 eF hHeld ⊢
  refine' wpAnyH_take (i:=0) (oi:=(⟨some 94,_,_,_,_,none⟩:Oper)) (v:=_) rfl (by kernel_rfl) (by kernel_rfl) (by kernel_rfl) (fun _ _ _ h=>h) (yieldsIf_load_mid (by rfl) _ _ rfl _ _ rfl (Pk.map (Value.int .i64)) _ ?hS1079 Tryz.underlying125 rfl (by rw [abD];exact bK Gv.out)) (by assumption) ?rest1079
  case hS1079=>(intro w hSw;(try dsimp only at hSw);exact aO (hSw.blk (rY.out.get 12 rfl) (rY.out.ne 12 5 rfl rfl (by decide))) 0 _ (by rw [abD];exact aj _ _))
  (try simp only [Act.put,sA,sZ,sS])
  refine' wpAnyH_take (i:=1) (oi:=(⟨some 95,_,_,_,_,none⟩:Oper)) (v:=_) rfl (by kernel_rfl) (by kernel_rfl) (by kernel_rfl) (fun _ _ _ h=>h) (yieldsIf_load_mid (by rfl) _ _ rfl _ _ rfl (Vd.map (Value.int .i64)) _ ?hS1080 Tryz.underlying125 rfl (by rw [abD];exact bK BI.out)) (by assumption) ?rest1080
  case hS1080=>(intro w hSw;(try dsimp only at hSw);exact aO (hSw.blk (rY.out.get 9 rfl) (rY.out.ne 9 5 rfl rfl (by decide))) 0 _ (by rw [abD];exact aj _ _))
  (try simp only [Act.put,sA,sZ,sS])
  refine' wpAnyH_take (i:=3) (oi:=(⟨some 97,_,_,_,_,none⟩:Oper)) (v:=_) rfl (by kernel_rfl) (by kernel_rfl) (by kernel_rfl) (fun _ _ _ h=>h) (yieldsIf_load_mid (by rfl) _ _ rfl _ _ rfl (Pk.map (Value.int .i64)) _ ?hS1081 Tryz.underlying125 rfl (by rw [abD];exact bK Gv.out)) (by assumption) ?rest1081
  case hS1081=>(intro w hSw;(try dsimp only at hSw);exact aO (hSw.blk (rY.out.get 12 rfl) (rY.out.ne 12 5 rfl rfl (by decide))) 0 _ (by rw [abD];exact aj _ _))
  (try simp only [Act.put,sA,sZ,sS])
  refine pR 2 ⟨some 96,_,_,_,_,none⟩ (fun K hK=>?_)
  go_simp
  go_at_call 134
  refine (gq 121665 _ (by decide)).mono ?_
  rintro e w1082 ⟨z1082,rfl,Zh,MI⟩
  have HZ1082:=abC Zh
  have HL1082:=abC Zh.1
  clear Zh
  have HB1082:=abC (eF.out.kept MI)
  have OI:=abC (d9.out.trans (Kept.of_below MI))
  clear MI
  (try dsimp only)
  clear eF
  clear d9
  clear hHeld
  refine hK.out _ _ (OI.out) (fun hHeld=>?_)
  clear hK K
  (try simp only [Act.put,sA,sZ,sS])
  refine pR 4 ⟨some 98,_,_,_,_,none⟩ (fun K hK=>?_)
  go_simp
  go_at_call 132
  refine (bM _ _ _ _ _ HZ1082.out N8.out).mono ?_
  rintro e w1083 ⟨z1083,rfl,Zg,MH⟩
  have HZ1083:=abC Zg
  have HL1083:=abC Zg.1
  clear Zg
  have HB1083:=abC (HB1082.out.kept MH)
  have OH:=abC (OI.out.trans (Kept.of_below MH))
  clear MH
  (try dsimp only)
  clear HB1082
  clear OI
  clear hHeld
  refine hK.out _ _ (OH.out) (fun hHeld=>?_)
  clear hK K
  (try simp only [Act.put,sA,sZ,sS])
  refine pR 5 ⟨some 99,_,_,_,_,none⟩ (fun K hK=>?_)
  go_simp
  go_at_call 142
  refine (iZ _ _ _ _ _ Gl.out HZ1083.out).mono ?_
  rintro e w1084 ⟨z1084,rfl,Zf,MG⟩
  have HZ1084:=abC Zf
  have HL1084:=abC Zf.1
  clear Zf
  have HB1084:=abC (HB1083.out.kept MG)
  have OG:=abC (OH.out.trans (Kept.of_below MG))
  clear MG
  (try dsimp only)
  clear HB1083
  clear OH
  clear hHeld
  refine hK.out _ _ (OG.out) (fun hHeld=>?_)
  clear hK K
  (try simp only [Act.put,sA,sZ,sS])
  refine pR 6 ⟨some 100,_,_,_,_,none⟩ (fun K hK=>?_)
  go_simp
  go_at_call 132
  refine (bM _ _ _ _ _ N8.out HZ1084.out).mono ?_
  rintro e w1085 ⟨z1085,rfl,Ze,ME⟩
  have aaL:=abC Ze
  have vY:=abC Ze.1
  clear Ze
  have O5:=abC (HB1084.out.kept ME)
  have OE:=abC (OG.out.trans (Kept.of_below ME))
  clear ME
  (try dsimp only)
  clear HB1084
  clear OG
  clear hHeld
  refine hK.out _ _ (OE.out) (fun hHeld=>?_)
  clear hK K
  (try simp only [Act.put,sA,sZ,sS])
  refine pR 7 ⟨none,_,_,_,_,none⟩ (fun K hK=>?_)
  refine aI rfl 125 (.tmp 7) (.tmp 100) rfl (AU) _ _ _ (O5.out.get 5 rfl) rfl rfl (av _ _ vY.out HBl.out) (dx vY.out) (ak _ _) ?_
  intro w1086 YR LU hz1086
  have BX:=abC (O5.out.put 5 rfl LU YR)
  have HK1086:=abC (OE.out.trans LU)
  clear YR LU hz1086
  clear O5
  clear OE
  clear hHeld
  refine hK.out _ _ (HK1086.out) (fun hHeld=>?_)
  clear hK K
  (try simp only [Act.put])
  refine wpAnyH_done (by kernel_rfl) ?_ _
  (try simp only [Exit.then])
  rcases hb with rfl|rfl
  ·have hbv:(((0:Nat):Int) == 1)=false:=rfl
   go_wp2_with fail
   go_roundw
   case rel =>
    have e:=HI.out
    exact ⟨n+1,by omega,by congr 1;omega,_,_,_,_,by rw [Kh.out];exact NW.out,by rw [Kh.out];exact aaL.out,by rw [Kh.out];exact NY.out,by rw [Kh.out];exact aaM.out,BX.out.less 8⟩
   case measure=>simp [intOf]
  ·have hbv:(((1:Nat):Int) == 1)=true:=rfl
   go_upto_region 30 with (first|((with_reducible refine aS 103 ?_);refine lL rfl rfl (BX.out.get 6 rfl) rfl (aj _ _) Tryz.underlying125 rfl (bK wC.out) ?_)|((with_reducible refine aS 104 ?_);refine lL rfl rfl (BX.out.get 4 rfl) rfl (aj _ _) Tryz.underlying125 rfl (bK vZ.out) ?_)|((with_reducible refine aT 6 (x:=(Operand.tmp 103)) ?_);refine lS rfl rfl BX 4 rfl rfl rfl (av _ _ wC.out vZ.out) (dx wC.out) (ak _ _) ?_;intro w1087 HB1087;clear BX)|((with_reducible refine aT 8 (x:=(Operand.tmp 104)) ?_);refine lS rfl rfl HB1087 6 rfl rfl rfl (av _ _ vZ.out wC.out) (dx vZ.out) (ak _ _) ?_;intro w1088 G6;clear HB1087))
   go_wp2_with (first|((with_reducible refine aS 105 ?_);refine lL rfl rfl (G6.out.get 7 rfl) rfl (aj _ _) Tryz.underlying125 rfl (bK wh.out) ?_)|((with_reducible refine aS 106 ?_);refine lL rfl rfl (G6.out.get 5 rfl) rfl (aj _ _) Tryz.underlying125 rfl (bK vY.out) ?_)|((with_reducible refine aT 7 (x:=(Operand.tmp 105)) ?_);refine lS rfl rfl G6 5 rfl rfl rfl (av _ _ wh.out vY.out) (dx wh.out) (ak _ _) ?_;intro w1089 HB1089;clear G6)|((with_reducible refine aT 9 (x:=(Operand.tmp 106)) ?_);refine lS rfl rfl HB1089 7 rfl rfl rfl (av _ _ vY.out wh.out) (dx vY.out) (ak _ _) ?_;intro w1090 HB1090;clear HB1089))
   go_roundw
   case rel =>
    have e:=HI.out
    exact ⟨n+1,by omega,by congr 1;omega,_,_,_,_,by rw [Kh.out];exact NY.out,by rw [Kh.out];exact aaM.out,by rw [Kh.out];exact NW.out,by rw [Kh.out];exact aaL.out,HB1090.out.less 8⟩
   case measure=>simp [intOf]
 ·obtain rfl:n=255:=by omega
  have hz:(254:Int) - ((255:Nat):Int) = -1:=by omega
  rw [hz]
  have hout:=fun xs w (h:El xs (aA (FN X K 255).a (finv (FN X K 255).b)))=>nQ xs _ w h
  obtain ⟨ro,hro⟩:∃ x,x=aW (bD 256 32 (aA (FN X K 255).a (finv (FN X K 255).b))):=⟨_,rfl⟩
  have iR:Hid (ro.length=32):=abC (by rw [hro,aG,aK])
  rw [← hro] at hout
  have HOUT:=abC hout
  have HRO:=abC hro
  clear hz hout hro
  go_upto_region 31 with fail
  have d9:=abC ((Kept.refl (fun x=>x=w.heap.size+1+1) wr).drew)
  have eF:=abC (HB.out.drew)
  refine wp_region_held_drew (S:=(fun w'=>Kept (fun x=>x=w.heap.size+1+1) wr w')) (by kernel_rfl) (d9.out) (fun hHeld=>?_)
  generalize wr.drew=wd at d9 eF hHeld ⊢
  refine' wpAnyH_take (i:=0) (oi:=(⟨some 107,_,_,_,_,none⟩:Oper)) (v:=_) rfl (by kernel_rfl) (by kernel_rfl) (by kernel_rfl) (fun _ _ _ h=>h) (yieldsIf_load_mid (by rfl) _ _ rfl _ _ rfl (la.map (Value.int .i64)) _ ?hS1091 Tryz.underlying125 rfl (by rw [abD];exact bK HAl.out)) (by assumption) ?rest1091
  case hS1091=>(intro w hSw;(try dsimp only at hSw);exact aO (hSw.blk (HB.out.get 4 rfl) (HB.out.ne 4 2 rfl rfl (by decide))) 0 _ (by rw [abD];exact aj _ _))
  (try simp only [Act.put,sA,sZ,sS])
  refine' wpAnyH_take (i:=1) (oi:=(⟨some 108,_,_,_,_,none⟩:Oper)) (v:=_) rfl (by kernel_rfl) (by kernel_rfl) (by kernel_rfl) (fun _ _ _ h=>h) (yieldsIf_load_mid (by rfl) _ _ rfl _ _ rfl (lb.map (Value.int .i64)) _ ?hS1092 Tryz.underlying125 rfl (by rw [abD];exact bK HBl.out)) (by assumption) ?rest1092
  case hS1092=>(intro w hSw;(try dsimp only at hSw);exact aO (hSw.blk (HB.out.get 5 rfl) (HB.out.ne 5 2 rfl rfl (by decide))) 0 _ (by rw [abD];exact aj _ _))
  (try simp only [Act.put,sA,sZ,sS])
  refine pR 2 ⟨some 109,_,_,_,_,none⟩ (fun K hK=>?_)
  go_simp
  go_at_call 130
  refine (FU _ _ _ HBe.out).mono ?_
  rintro e w1093 ⟨z1093,rfl,Zd,MC⟩
  have HZ1093:=abC Zd
  have HL1093:=abC Zd.1
  clear Zd
  have HB1093:=abC (eF.out.kept MC)
  have OD:=abC (d9.out.trans (Kept.of_below MC))
  clear MC
  (try dsimp only)
  clear eF
  clear d9
  clear hHeld
  refine hK.out _ _ (OD.out) (fun hHeld=>?_)
  clear hK K
  (try simp only [Act.put,sA,sZ,sS])
  refine pR 3 ⟨some 110,_,_,_,_,none⟩ (fun K hK=>?_)
  go_simp
  go_at_call 132
  refine (bM _ _ _ _ _ HAe.out HZ1093.out).mono ?_
  rintro e w1094 ⟨z1094,rfl,Zc,MB⟩
  have HZ1094:=abC Zc
  have HL1094:=abC Zc.1
  clear Zc
  have HB1094:=abC (HB1093.out.kept MB)
  have OC:=abC (OD.out.trans (Kept.of_below MB))
  clear MB
  (try dsimp only)
  clear HB1093
  clear OD
  clear hHeld
  refine hK.out _ _ (OC.out) (fun hHeld=>?_)
  clear hK K
  (try simp only [Act.put,sA,sZ,sS])
  refine pR 4 ⟨some 111,_,_,_,_,none⟩ (fun K hK=>?_)
  go_simp
  go_at_call 131
  refine (HOUT.out _ _ HZ1094.out).mono ?_
  rintro e w1095 ⟨rfl,Mx⟩
  have O4:=abC (HB1094.out.kept Mx)
  have OB:=abC (OC.out.trans (Kept.of_below Mx))
  clear Mx
  (try dsimp only)
  clear HB1094
  clear OC
  clear hHeld
  refine hK.out _ _ (OB.out) (fun hHeld=>?_)
  clear hK K
  (try simp only [Act.put,sA,sZ,sS])
  refine pR 5 ⟨none,_,_,_,_,none⟩ (fun K hK=>?_)
  refine aI rfl 25 (.tmp 4) (.tmp 111) rfl (w.heap.size+1+1) _ _ _ (O4.out.get 2 rfl) rfl rfl (av _ _ iR.out dw.out) (bG iR.out) (ak _ _) ?_
  intro w1096 YQ LQ hz1096
  have HB1096:=abC (O4.out.put 2 rfl LQ YQ)
  have HK1096:=abC (OB.out.trans LQ)
  clear YQ LQ hz1096
  clear O4
  clear OB
  clear hHeld
  refine hK.out _ _ (HK1096.out) (fun hHeld=>?_)
  clear hK K
  (try simp only [Act.put])
  refine wpAnyH_done (by kernel_rfl) ?_ _
  have sH:=HB1096
  (try simp only [Exit.then])
  go_wp2_with fail
  refine bodyPost_ret (results_cell_row rfl _ _ (w.heap.size+1+1) 25 _ (0,0) _ rfl (sH.out.get 2 rfl) Tryz.underlying25 rfl (bG iR.out)) rfl ?_
  exact ⟨by rw [HRO.out],sH.out.below⟩
end Go.Proofs.YthdgbgleklkaiaaGreatDoor.Rd
