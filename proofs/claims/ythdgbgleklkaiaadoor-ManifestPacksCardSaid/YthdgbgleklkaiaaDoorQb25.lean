/- The document's Ladder. Condition: as each theorem says. -/

import Derived.Test.YthdgbgleklkaiaaDoorQb23
open Go.Lib renaming hid→acD
open List renaming length_map→acE,replicate→acG
open BitVec renaming ofInt→acF
set_option linter.unusedSimpArgs false
set_option linter.unusedVariables false
set_option maxRecDepth 100000
set_option maxHeartbeats 16000000
namespace Go.Proofs.YthdgbgleklkaiaaDoor.Rd
open Go.RowKit Lm Fp Cu
theorem Ni (w:World):(Instr.build 98 #[]).run Tryd.prog w = .ok (.agg (arr .i64 (acG 16 0))) w:=by kernel_rfl
theorem and127f (t:Nat) (h:t < 256):bits .and .u8 (t:Int) 127=((t % 128:Nat):Int):=by
 have e:t &&& 127=t % 128:=Nat.and_two_pow_sub_one_eq_mod t 7
 have h1:(acF 8 (t:Int)).toNat=t:=by rw [BitVec.ofInt_natCast,BitVec.toNat_ofNat];exact Nat.mod_eq_of_lt (by omega)
 have h2:(acF 8 (127:Int)).toNat=127:=by decide
 show IntKind.u8.wrap ((acF 8 (t:Int) &&& acF 8 (127:Int)).toNat:Int)=_
 rw [BitVec.toNat_and,h1,h2,e,IntKind.wrap_u8]
 omega
theorem WO (x k n:Nat):Fb x k (n+1)=(lY x ((Fb x k n).swap (k / 2 ^ (254 - n) % 2))).swap (k / 2 ^ (254 - n) % 2):=rfl
theorem Ag (k u:Nat) (w:World) (hk:k < 2 ^ 256) (hu:u < 2 ^ 256) :
  Calls Tryd.prog 55 #[.agg (arr .u8 (aW (bD 256 32 k))), .agg (arr .u8 (aW (bD 256 32 u)))] w fun e w'=>e = .returned (.agg (arr .u8 (aW (bD 256 32 (bW k u)))))∧Below w.heap.size w w':=by
 have hcl:=fun w=>xC k w hk
 obtain ⟨t1,t2⟩:=pE u hu
 have hds:=Qt u hu
 have hy2:u % 2 ^ 255 < 2 ^ 255:=Nat.mod_lt _ (by decide)
 have hin:=fun w=>KY (u % 2 ^ 255) w (Nat.lt_of_lt_of_le hy2 (by decide))
 have MJ:(aW (bD 256 32 u)).getD 31 0=((u / 256 ^ 31:Nat):Int):=by rw [bG,t1]
 have hn2:(aW (bD 256 32 u)).set 31 ((u / 256 ^ 31 % 128:Nat):Int)=aW (bD 256 32 (u % 2 ^ 255)):=by rw [← dw,hds]
 have ha:=and127f (u / 256 ^ 31) t2
 generalize u / 256 ^ 31=t at MJ hn2 ha t2
 obtain ⟨K,hK⟩:∃ K,K=clamp k:=⟨_,rfl⟩
 obtain ⟨X,hX⟩:∃ X,X=u % 2 ^ 255 % p:=⟨_,rfl⟩
 have hres:bW k u=aA (Fb X K 255).a (finv (Fb X K 255).b):=by rw [hK,hX];rfl
 rw [hres]
 rw [← hK] at hcl
 rw [← hX] at hin
 obtain ⟨ks,hks⟩:∃ x,x=aW (bD 256 32 k):=⟨_,rfl⟩
 have kU:Hid (ks.length=32):=acD (by rw [hks,aJ,aK])
 obtain ⟨us,Qg⟩:∃ x,x=aW (bD 256 32 u):=⟨_,rfl⟩
 have JW:Hid (us.length=32):=acD (by rw [Qg,aJ,aK])
 obtain ⟨um,hum⟩:∃ x,x=aW (bD 256 32 (u % 2 ^ 255)):=⟨_,rfl⟩
 have HUM:Hid (um.length=32):=acD (by rw [hum,aJ,aK])
 obtain ⟨kc,hkc⟩:∃ x,x=aW (bD 256 32 K):=⟨_,rfl⟩
 have HKC:Hid (kc.length=32):=acD (by rw [hkc,aJ,aK])
 rw [← hks,← Qg]
 rw [← hks] at hcl
 rw [← hkc] at hcl
 rw [← Qg] at MJ hn2
 rw [← hum] at hn2 hin
 have nD:=acD hcl
 have HIN:=acD hin
 have HG:=acD MJ
 have HN2:=acD hn2
 have HA:=acD ha
 have HES:=acD hkc
 obtain ⟨ze,iM⟩:∃ zs:List Int,zs=acG 16 0:=⟨_,rfl⟩
 have dN:Hid (∀ w,(zeroValue 98).run Tryd.prog w = .ok (.agg (arr .i64 ze)) w):=acD (by intro w;rw [iM];exact gJ w)
 have dG:Hid (ze.length=16):=acD (by rw [iM];rfl)
 obtain ⟨zn,hzn⟩:∃ zs:List Int,zs=acG 32 0:=⟨_,rfl⟩
 have dA:Hid (∀ w,(zeroValue 23).run Tryd.prog w = .ok (.agg (arr .u8 zn)) w):=acD (by intro w;rw [hzn];exact zero_num w)
 have cK:Hid (zn.length=32):=acD (by rw [hzn];rfl)
 have HEz:Hid (El ze 0):=acD (by rw [iM];exact FH)
 have Db:Hid (∀ w,(Instr.build 98 #[]).run Tryd.prog w = .ok (.agg (arr .i64 ze)) w):=acD (by intro w;rw [iM];exact Ni w)
 have bQ:=acD (bM.three w (arr .u8 ks) (arr .u8 us) (arr .u8 zn) 23 23 23)
 clear iM hzn hcl hds hy2 hin MJ hn2 ha hK hX hres hks Qg hum hkc t1 hk hu
 go_enter Tryd.func55, Tryd.ntmps55
 go_upto_region 1 with (first|((with_reducible refine aS 4 ?_);refine aj rfl 23 rfl _ (dA.out _) ?_))
 (try simp only [World.size_alloc,Act.put,sA,sZ,sS])
 generalize (((w.alloc (.cells (arr .u8 ks) 23)).alloc (.cells (arr .u8 us) 23)).alloc (.cells (arr .u8 zn) 23))=wb at bQ ⊢
 go_upto_region 2 with (first|((with_reducible refine aS 21 ?_);refine lL rfl rfl (bQ.out.get 0 rfl) rfl (au _ _) Tryd.underlying23 rfl (bU kU.out) ?_)|((with_reducible show Calls _ 65 #[.agg _] _ _);go_at_call 65; refine lC (nD.out _) bQ ?_;intro w1001 OL)|((with_reducible refine aT 2 (x:=(Operand.tmp 22)) ?_);refine lS rfl rfl OL 0 rfl rfl rfl (ay _ _ HKC.out kU.out) (bE HKC.out) (av _ _) ?_;intro w1002 OJ;clear OL))
 have q0:=aP (OJ.out.get 1 rfl) 31 (by rw [JW.out];decide)
 have q1:=aC (OJ.out.get 1 rfl) 31
 rw [HG.out] at q0
 have hb1:=OJ.out.cell 1 rfl 31 (.int .u8 (bits .and .u8 (t:Int) 127))
 have e2:(arr .u8 us).setIfInBounds 31 (.int .u8 (bits .and .u8 (t:Int) 127))=arr .u8 um:=by rw [HA.out,bf,HN2.out]
 have HU1:=acD (hb1.cast (l':=[(w.heap.size,arr .u8 kc, 23),(w.heap.size+1,arr .u8 um, 23),(w.heap.size+1+1,arr .u8 zn, 23)]) (by rw [← e2];rfl))
 clear hb1 e2
 go_upto_region 3 with fail
 clear q0 q1
 generalize w1002.setCell ⟨w.heap.size+1,31,none⟩ (.int .u8 (bits .and .u8 (t:Int) 127))=wu at HU1 ⊢
 go_wp2_with (first|((with_reducible refine aS 27 ?_);refine lL rfl rfl (HU1.out.get 1 rfl) rfl (au _ _) Tryd.underlying23 rfl (bU HUM.out) ?_)|((with_reducible show Calls _ 76 #[.agg _] _ _);go_at_call 76; refine (HIN.out _).mono ?_;rintro e w1003 ⟨Df,rfl,aaO,ZA⟩;have HZ1003:=acD aaO;have wM:=acD aaO.1;clear aaO;have HB1003:=acD (HU1.out.kept ZA);clear ZA)|((with_reducible refine aS 5 ?_);refine lA rfl rfl (dN.out _) HB1003 ?_;intro DW w1004 Co; clear HB1003)|((with_reducible refine aT 5 (x:=(Operand.tmp 28)) ?_);refine lS rfl rfl Co 3 rfl rfl rfl (ay _ _ wM.out dG.out) (cZ wM.out) (av _ _) ?_;intro w1005 HB1005;clear Co)|((with_reducible show Calls _ 71 #[_] _ _);go_at_call 71; refine (gu 1 _ (by decide)).mono ?_;rintro e w1006 ⟨z1006,rfl,aaN,Zy⟩;have HZ1006:=acD aaN;have HL1006:=acD aaN.1;clear aaN;have HB1006:=acD (HB1005.out.kept Zy);clear Zy;clear HB1005)|((with_reducible refine aS 6 ?_);refine lA rfl rfl (dN.out _) HB1006 ?_;intro oI w1007 Cn; clear HB1006)|((with_reducible refine aT 6 (x:=(Operand.tmp 29)) ?_);refine lS rfl rfl Cn 4 rfl rfl rfl (ay _ _ HL1006.out dG.out) (cZ HL1006.out) (av _ _) ?_;intro U6 Cm;clear Cn)|((with_reducible refine aS 30 ?_);refine wpList_build (by rfl) 98 _ rfl #[] rfl _ (Db.out _) ?_)|((with_reducible refine aS 7 ?_);refine lA rfl rfl (dN.out _) Cm ?_;intro g1009 w1009 Ck; clear Cm)|((with_reducible refine aT 7 (x:=(Operand.tmp 30)) ?_);refine lS rfl rfl Ck 5 rfl rfl rfl (ay _ _ dG.out dG.out) (cZ dG.out) (av _ _) ?_;intro w1010 OI;clear Ck)|((with_reducible refine aS 31 ?_);refine lL rfl rfl (OI.out.get 3 rfl) rfl (au _ _) Tryd.underlying98 rfl (bJ wM.out) ?_)|((with_reducible refine aS 8 ?_);refine lA rfl rfl (dN.out _) OI ?_;intro rA w1011 Cj; clear OI)|((with_reducible refine aT 8 (x:=(Operand.tmp 31)) ?_);refine lS rfl rfl Cj 6 rfl rfl rfl (ay _ _ wM.out dG.out) (cZ wM.out) (av _ _) ?_;intro w1012 HB1012;clear Cj)|((with_reducible show Calls _ 71 #[_] _ _);go_at_call 71; refine (gu 1 _ (by decide)).mono ?_;rintro e w1013 ⟨z1013,rfl,aaM,Zv⟩;have HZ1013:=acD aaM;have HL1013:=acD aaM.1;clear aaM;have HB1013:=acD (HB1012.out.kept Zv);clear Zv;clear HB1012)|((with_reducible refine aS 9 ?_);refine lA rfl rfl (dN.out _) HB1013 ?_;intro oH w1014 Ci; clear HB1013)|((with_reducible refine aT 9 (x:=(Operand.tmp 32)) ?_);refine lS rfl rfl Ci 7 rfl rfl rfl (ay _ _ HL1013.out dG.out) (cZ HL1013.out) (av _ _) ?_;intro w1015 HB1015;clear Ci))
 go_loopw [10] (fun v' wr=>∃ n:Nat,n≤255∧v' = .int .i64 (254 - (n:Int))∧∃ la lb lc ld:List Int,El la (Fb X K n).a∧El lb (Fb X K n).b∧El lc (Fb X K n).c∧El ld (Fb X K n).d∧bM w wr [(w.heap.size,arr .u8 kc, 23),(w.heap.size+1,arr .u8 um, 23),(w.heap.size+1+1,arr .u8 zn, 23),(DW,(arr .i64 Df), 98),(oI,arr .i64 la, 98),(g1009,arr .i64 lb, 98),(rA,arr .i64 lc, 98),(oH,arr .i64 ld, 98)]) (fun v' _=>(intOf v'+1).toNat)
 case atStart=>exact ⟨0,Nat.zero_le _,rfl,_,_,_,_,HZ1006.out,HEz.out,HZ1003.out,HZ1013.out,HB1015.out⟩
 case round =>
 obtain ⟨n,hn,rfl,la,lb,lc,ld,h1,h2,h3,h4,hB⟩:=hrel
 have HAe:=acD h1
 have HBe:=acD h2
 have HCe:=acD h3
 have HDe:=acD h4
 have HAl:=acD h1.1
 have HBl:=acD h2.1
 have HCl:=acD h3.1
 have HDl:=acD h4.1
 have HB:=acD hB
 clear h1 h2 h3 h4 hB
 by_cases hlt:n < 255
 ·obtain ⟨i,hi⟩:∃ i:Nat,i+n=254:=⟨254 - n,by omega⟩
  have hz:(254:Int) - (n:Int)=(i:Int):=by omega
  have hi2:i < 256:=by omega
  obtain ⟨y,hy,hy2,hbit⟩:=AV kc K i HES.out hi2
  have hpn:=WO X K n
  rw [show 254 - n=i by omega] at hpn
  rw [hz]
  have q0:=aP (HB.out.get 0 rfl) (i / 8) (by rw [HKC.out];omega)
  rw [hy] at q0
  have HI:=acD hi
  clear hy hz hi
  have q9:0≤(i:Int):=by omega
  have hb:=show K / 2 ^ i % 2=0∨K / 2 ^ i % 2=1 by omega
  generalize K / 2 ^ i % 2=b0 at hb hbit hpn
  obtain ⟨S,hS⟩:∃ S,S=(Fb X K n).swap b0:=⟨_,rfl⟩
  have FV:=acD hS
  have JX:Hid (Fb X K (n+1)=(lY X S).swap b0):=acD (by rw [hpn,hS])
  clear hpn hS
  go_upto_if 47 with fail
  clear q0 hbit
  go_cut [] (fun wx=>∃ ta tb tc td:List Int,El ta S.a∧El tb S.b∧El tc S.c∧El td S.d∧bM w wx [(w.heap.size,arr .u8 kc, 23),(w.heap.size+1,arr .u8 um, 23),(w.heap.size+1+1,arr .u8 zn, 23),(DW,(arr .i64 Df), 98),(oI,arr .i64 ta, 98),(g1009,arr .i64 tb, 98),(rA,arr .i64 tc, 98),(oH,arr .i64 td, 98)])
  case first =>
   rcases hb with rfl|rfl
   ·have hbv:(((0:Nat):Int) == 1)=false:=rfl
    go_wp2_with fail
    go_meet
    exact ⟨_,_,_,_,by rw [FV.out];exact HAe.out,by rw [FV.out];exact HBe.out,by rw [FV.out];exact HCe.out,by rw [FV.out];exact HDe.out,HB.out⟩
   ·have hbv:(((1:Nat):Int) == 1)=true:=rfl
    go_upto_region 14 with (first|((with_reducible refine aS 48 ?_);refine lL rfl rfl (HB.out.get 6 rfl) rfl (au _ _) Tryd.underlying98 rfl (bJ HCl.out) ?_)|((with_reducible refine aS 49 ?_);refine lL rfl rfl (HB.out.get 4 rfl) rfl (au _ _) Tryd.underlying98 rfl (bJ HAl.out) ?_)|((with_reducible refine aT 6 (x:=(Operand.tmp 48)) ?_);refine lS rfl rfl HB 4 rfl rfl rfl (ay _ _ HCl.out HAl.out) (cZ HCl.out) (av _ _) ?_;intro w1016 OH)|((with_reducible refine aT 8 (x:=(Operand.tmp 49)) ?_);refine lS rfl rfl OH 6 rfl rfl rfl (ay _ _ HAl.out HCl.out) (cZ HAl.out) (av _ _) ?_;intro w1017 Cg;clear OH))
    go_wp2_with (first|((with_reducible refine aS 50 ?_);refine lL rfl rfl (Cg.out.get 7 rfl) rfl (au _ _) Tryd.underlying98 rfl (bJ HDl.out) ?_)|((with_reducible refine aS 51 ?_);refine lL rfl rfl (Cg.out.get 5 rfl) rfl (au _ _) Tryd.underlying98 rfl (bJ HBl.out) ?_)|((with_reducible refine aT 7 (x:=(Operand.tmp 50)) ?_);refine lS rfl rfl Cg 5 rfl rfl rfl (ay _ _ HDl.out HBl.out) (cZ HDl.out) (av _ _) ?_;intro w1018 OG;clear Cg)|((with_reducible refine aT 9 (x:=(Operand.tmp 51)) ?_);refine lS rfl rfl OG 7 rfl rfl rfl (ay _ _ HBl.out HDl.out) (cZ HBl.out) (av _ _) ?_;intro w1019 HB1019;clear OG))
    go_meet
    exact ⟨_,_,_,_,by rw [FV.out];exact HCe.out,by rw [FV.out];exact HDe.out,by rw [FV.out];exact HAe.out,by rw [FV.out];exact HBe.out,HB1019.out⟩
  case rest =>
  obtain ⟨wt,rfl⟩:∃ x:World,x=wc:=⟨_,rfl⟩
  obtain ⟨ta,tb,tc,td,h1,h2,h3,h4,h5⟩:=hcut
  clear HAe HBe HCe HDe HAl HBl HCl HDl HB FV
  have HAe:=acD h1
  have HBe:=acD h2
  have HCe:=acD h3
  have HDe:=acD h4
  have HAl:=acD h1.1
  have HBl:=acD h2.1
  have HCl:=acD h3.1
  have HDl:=acD h4.1
  have HB:=acD h5
  clear h1 h2 h3 h4 h5
  go_upto_region 15 with fail
  go_upto_region 16 with (first|((with_reducible refine aS 52 ?_);refine lL rfl rfl (HB.out.get 4 rfl) rfl (au _ _) Tryd.underlying98 rfl (bJ HAl.out) ?_)|((with_reducible refine aS 53 ?_);refine lL rfl rfl (HB.out.get 5 rfl) rfl (au _ _) Tryd.underlying98 rfl (bJ HBl.out) ?_)|((with_reducible show Calls _ 77 #[.agg _, .agg _] _ _);go_at_call 77; refine (iW _ _ _ _ _ HAe.out HBe.out).mono ?_;rintro e w1020 ⟨G5,rfl,aaL,Zo⟩;have Bh:=acD aaL;have Bw:=acD aaL.1;clear aaL;have HB1020:=acD (HB.out.kept Zo);clear Zo)|((with_reducible refine aS 12 ?_);refine lA rfl rfl (dN.out _) HB1020 ?_;intro I5 w1021 Cc; clear HB1020)|((with_reducible refine aT 12 (x:=(Operand.tmp 54)) ?_);refine lS rfl rfl Cc 8 rfl rfl rfl (ay _ _ Bw.out dG.out) (cZ Bw.out) (av _ _) ?_;intro w1022 GK;clear Cc))
  go_upto_region 17 with (first|((with_reducible refine aS 55 ?_);refine lL rfl rfl (GK.out.get 8 rfl) rfl (au _ _) Tryd.underlying98 rfl (bJ Bw.out) ?_)|((with_reducible refine aS 56 ?_);refine lL rfl rfl (GK.out.get 8 rfl) rfl (au _ _) Tryd.underlying98 rfl (bJ Bw.out) ?_)|((with_reducible show Calls _ 68 #[.agg _, .agg _] _ _);go_at_call 68; refine (bL _ _ _ _ _ Bh.out Bh.out).mono ?_;rintro e w1023 ⟨GZ,rfl,aaK,Zm⟩;have Nw:=acD aaK;have Bv:=acD aaK.1;clear aaK;have HB1023:=acD (GK.out.kept Zm);clear Zm;clear GK)|((with_reducible refine aS 13 ?_);refine lA rfl rfl (dN.out _) HB1023 ?_;intro I4 w1024 Cb; clear HB1023)|((with_reducible refine aT 13 (x:=(Operand.tmp 57)) ?_);refine lS rfl rfl Cb 9 rfl rfl rfl (ay _ _ Bv.out dG.out) (cZ Bv.out) (av _ _) ?_;intro w1025 GJ;clear Cb))
  go_upto_region 18 with (first|((with_reducible refine aS 58 ?_);refine lL rfl rfl (GJ.out.get 4 rfl) rfl (au _ _) Tryd.underlying98 rfl (bJ HAl.out) ?_)|((with_reducible refine aS 59 ?_);refine lL rfl rfl (GJ.out.get 5 rfl) rfl (au _ _) Tryd.underlying98 rfl (bJ HBl.out) ?_)|((with_reducible show Calls _ 78 #[.agg _, .agg _] _ _);go_at_call 78; refine (ji _ _ _ _ _ HAe.out HBe.out).mono ?_;rintro e w1026 ⟨GY,rfl,aaJ,Zk⟩;have Bf:=acD aaJ;have Bu:=acD aaJ.1;clear aaJ;have HB1026:=acD (GJ.out.kept Zk);clear Zk;clear GJ)|((with_reducible refine aS 14 ?_);refine lA rfl rfl (dN.out _) HB1026 ?_;intro IZ w1027 Ca; clear HB1026)|((with_reducible refine aT 14 (x:=(Operand.tmp 60)) ?_);refine lS rfl rfl Ca 10 rfl rfl rfl (ay _ _ Bu.out dG.out) (cZ Bu.out) (av _ _) ?_;intro w1028 GI;clear Ca))
  go_upto_region 19 with (first|((with_reducible refine aS 61 ?_);refine lL rfl rfl (GI.out.get 10 rfl) rfl (au _ _) Tryd.underlying98 rfl (bJ Bu.out) ?_)|((with_reducible refine aS 62 ?_);refine lL rfl rfl (GI.out.get 10 rfl) rfl (au _ _) Tryd.underlying98 rfl (bJ Bu.out) ?_)|((with_reducible show Calls _ 68 #[.agg _, .agg _] _ _);go_at_call 68; refine (bL _ _ _ _ _ Bf.out Bf.out).mono ?_;rintro e w1029 ⟨OV,rfl,aaI,Zi⟩;have HZ1029:=acD aaI;have F7:=acD aaI.1;clear aaI;have HB1029:=acD (GI.out.kept Zi);clear Zi;clear GI)|((with_reducible refine aS 15 ?_);refine lA rfl rfl (dN.out _) HB1029 ?_;intro IY w1030 BZ; clear HB1029)|((with_reducible refine aT 15 (x:=(Operand.tmp 63)) ?_);refine lS rfl rfl BZ 11 rfl rfl rfl (ay _ _ F7.out dG.out) (cZ F7.out) (av _ _) ?_;intro w1031 GD;clear BZ))
  go_upto_region 20 with (first|((with_reducible refine aS 64 ?_);refine lL rfl rfl (GD.out.get 9 rfl) rfl (au _ _) Tryd.underlying98 rfl (bJ Bv.out) ?_)|((with_reducible refine aS 65 ?_);refine lL rfl rfl (GD.out.get 11 rfl) rfl (au _ _) Tryd.underlying98 rfl (bJ F7.out) ?_)|((with_reducible show Calls _ 78 #[.agg _, .agg _] _ _);go_at_call 78; refine (ji _ _ _ _ _ Nw.out HZ1029.out).mono ?_;rintro e w1032 ⟨OU,rfl,aaH,Zg⟩;have HZ1032:=acD aaH;have F6:=acD aaH.1;clear aaH;have HB1032:=acD (GD.out.kept Zg);clear Zg;clear GD)|((with_reducible refine aS 16 ?_);refine lA rfl rfl (dN.out _) HB1032 ?_;intro aaR w1033 BX; clear HB1032)|((with_reducible refine aT 16 (x:=(Operand.tmp 66)) ?_);refine lS rfl rfl BX 12 rfl rfl rfl (ay _ _ F6.out dG.out) (cZ F6.out) (av _ _) ?_;intro Dh GA;clear BX))
  (try simp only [Act.put,sA,sZ,sS])
  go_cut [17] (fun us' wx=>∃ gg xx,us' = .pointer (some ⟨gg,0,none⟩)∧El xx (aA (aX S.c S.d) (aL S.a S.b))∧bM w wx [(w.heap.size,arr .u8 kc, 23),(w.heap.size+1,arr .u8 um, 23),(w.heap.size+1+1,arr .u8 zn, 23),(DW,(arr .i64 Df), 98),(oI,arr .i64 ta, 98),(g1009,arr .i64 tb, 98),(rA,arr .i64 tc, 98),(oH,arr .i64 td, 98),(I5,(arr .i64 G5), 98),(I4,(arr .i64 GZ), 98),(IZ,(arr .i64 GY), 98),(IY,(arr .i64 OV), 98),(aaR,(arr .i64 OU), 98),(gg,arr .i64 xx, 98)])
  case first =>
   have dZ:=acD ((Kept.refl (fun _=>False) Dh).drew)
   have eB:=acD (GA.out.drew)
   refine wp_region_held_drew (S:=(fun w'=>Kept (fun _=>False) Dh w')) (by kernel_rfl) (dZ.out) (fun hHeld=>?_)
   generalize Dh.drew=wd at dZ eB hHeld ⊢
   refine' wpAnyH_take (i:=0) (oi:=(⟨some 67,_,_,_,_,none⟩:Oper)) (v:=_) rfl (by kernel_rfl) (by kernel_rfl) (by kernel_rfl) (fun _ _ _ h=>h) (yieldsIf_load_mid (by rfl) _ _ rfl _ _ rfl (tc.map (Value.int .i64)) _ ?hS1035 Tryd.underlying98 rfl (by rw [acE];exact bJ HCl.out)) (by assumption) ?rest1035
   case hS1035=>(intro w hSw;(try dsimp only at hSw);exact aN (hSw.blk (GA.out.get 6 rfl) (fun e=>e.elim)) 0 _ (by rw [acE];exact au _ _))
   (try simp only [Act.put,sA,sZ,sS])
   refine' wpAnyH_take (i:=1) (oi:=(⟨some 68,_,_,_,_,none⟩:Oper)) (v:=_) rfl (by kernel_rfl) (by kernel_rfl) (by kernel_rfl) (fun _ _ _ h=>h) (yieldsIf_load_mid (by rfl) _ _ rfl _ _ rfl (td.map (Value.int .i64)) _ ?hS1036 Tryd.underlying98 rfl (by rw [acE];exact bJ HDl.out)) (by assumption) ?rest1036
   case hS1036=>(intro w hSw;(try dsimp only at hSw);exact aN (hSw.blk (GA.out.get 7 rfl) (fun e=>e.elim)) 0 _ (by rw [acE];exact au _ _))
   (try simp only [Act.put,sA,sZ,sS])
   refine' wpAnyH_take (i:=3) (oi:=(⟨some 70,_,_,_,_,none⟩:Oper)) (v:=_) rfl (by kernel_rfl) (by kernel_rfl) (by kernel_rfl) (fun _ _ _ h=>h) (yieldsIf_load_mid (by rfl) _ _ rfl _ _ rfl (G5.map (Value.int .i64)) _ ?hS1037 Tryd.underlying98 rfl (by rw [acE];exact bJ Bw.out)) (by assumption) ?rest1037
   case hS1037=>(intro w hSw;(try dsimp only at hSw);exact aN (hSw.blk (GA.out.get 8 rfl) (fun e=>e.elim)) 0 _ (by rw [acE];exact au _ _))
   (try simp only [Act.put,sA,sZ,sS])
   refine wpAnyH_ready (rs:=[2,5]) (by kernel_rfl) (by simp) ?_
   refine AllReadyH.cons (o:=(⟨some 69,_,_,_,_,none⟩:Oper)) rfl (fun K hK=>?_) ?_
   ·go_simp
    go_at_call 78
    refine (ji _ _ _ _ _ HCe.out HDe.out).mono ?_
    rintro e U3 ⟨z1038,rfl,aaG,ME⟩
    have HZ1038:=acD aaG
    have HL1038:=acD aaG.1
    clear aaG
    have Gz:=acD (eB.out.kept ME)
    have wQ:=acD (dZ.out.trans (Kept.of_below ME))
    clear ME
    (try dsimp only)
    clear eB
    clear dZ
    clear hHeld
    refine hK.out _ _ (wQ.out) (fun hHeld=>?_)
    clear hK K
    (try simp only [Act.put,sA,sZ,sS])
    refine wpAnyH_ready (rs:=[4,5]) (by kernel_rfl) (by simp) ?_
    refine AllReadyH.cons (o:=(⟨some 71,_,_,_,_,none⟩:Oper)) rfl (fun K hK=>?_) ?_
    ·go_simp
     go_at_call 68
     refine (bL _ _ _ _ _ HZ1038.out Bh.out).mono ?_
     rintro e U2 ⟨z1039,rfl,aaF,MC⟩
     have HZ1039:=acD aaF
     have HL1039:=acD aaF.1
     clear aaF
     have HB1039:=acD (Gz.out.kept MC)
     have Gm:=acD (wQ.out.trans (Kept.of_below MC))
     clear MC
     (try dsimp only)
     clear Gz
     clear wQ
     clear hHeld
     refine hK.out _ _ (Gm.out) (fun hHeld=>?_)
     clear hK K
     (try simp only [Act.put,sA,sZ,sS])
     refine wpAnyH_ready (rs:=[5]) (by kernel_rfl) (by simp) ?_
     refine AllReadyH.cons (o:=(⟨some 17,_,_,_,_,none⟩:Oper)) rfl (fun K hK=>?_) AllReadyH.nil
     refine bg rfl 98 rfl _ (dN.out _) ?_
     have BU:=acD (HB1039.out.alloc (arr .i64 ze) 98)
     have Gl:=acD (Gm.out.alloc (.cells (arr .i64 ze) 98))
     have HN1040:=acD (show Dh.heap.size≤(U2).heap.size from Gm.out.size)
     generalize (U2).heap.size=g1040 at BU HN1040 ⊢
     generalize (U2).alloc (.cells (arr .i64 ze) 98)=w1040 at BU Gl ⊢
     clear HB1039
     clear Gm
     clear hHeld
     refine hK.out _ _ (Gl.out) (fun hHeld=>?_)
     clear hK K
     (try simp only [Act.put,sA,sZ,sS])
     refine wpAnyH_ready (rs:=[6]) (by kernel_rfl) (by simp) ?_
     refine AllReadyH.cons (o:=(⟨none,_,_,_,_,none⟩:Oper)) rfl (fun K hK=>?_) AllReadyH.nil
     refine aH rfl 98 (.tmp 17) (.tmp 71) rfl (g1040) _ _ _ (BU.out.get 13 rfl) rfl rfl (ay _ _ HL1039.out dG.out) (cZ HL1039.out) (av _ _) ?_
     intro w1041 Ze LD hz1041
     have HB1041:=acD (BU.out.put 13 rfl LD Ze)
     have HK1041:=acD (Gl.out.cO LD (fun i hi e=>absurd hi (by rw [e];exact Nat.not_lt.2 HN1040.out)))
     clear Ze LD hz1041
     clear BU
     clear Gl
     clear hHeld
     refine hK.out _ _ (HK1041.out) (fun hHeld=>?_)
     clear hK K
     (try simp only [Act.put])
     refine wpAnyH_done (by kernel_rfl) ?_ _
     go_wp2_with fail
     go_meet
     exact ⟨_,_,rfl,HZ1039.out,HB1041.out⟩
    refine AllReadyH.cons (o:=(⟨some 17,_,_,_,_,none⟩:Oper)) rfl (fun K hK=>?_) ?_
    ·refine bg rfl 98 rfl _ (dN.out _) ?_
     have Gy:=acD (Gz.out.alloc (arr .i64 ze) 98)
     have Gj:=acD (wQ.out.alloc (.cells (arr .i64 ze) 98))
     have HN1042:=acD (show Dh.heap.size≤(U3).heap.size from wQ.out.size)
     generalize (U3).heap.size=g1042 at Gy HN1042 ⊢
     generalize (U3).alloc (.cells (arr .i64 ze) 98)=w1042 at Gy Gj ⊢
     clear Gz
     clear wQ
     clear hHeld
     refine hK.out _ _ (Gj.out) (fun hHeld=>?_)
     clear hK K
     (try simp only [Act.put,sA,sZ,sS])
     refine wpAnyH_ready (rs:=[4]) (by kernel_rfl) (by simp) ?_
     refine AllReadyH.cons (o:=(⟨some 71,_,_,_,_,none⟩:Oper)) rfl (fun K hK=>?_) AllReadyH.nil
     go_simp
     go_at_call 68
     refine (bL _ _ _ _ _ HZ1038.out Bh.out).mono ?_
     rintro e w1043 ⟨z1043,rfl,aaE,MB⟩
     have HZ1043:=acD aaE
     have HL1043:=acD aaE.1
     clear aaE
     have OE:=acD (Gy.out.kept MB)
     have Oe:=acD (Gj.out.trans (Kept.of_below MB))
     clear MB
     (try dsimp only)
     clear Gy
     clear Gj
     clear hHeld
     refine hK.out _ _ (Oe.out) (fun hHeld=>?_)
     clear hK K
     (try simp only [Act.put,sA,sZ,sS])
     refine wpAnyH_ready (rs:=[6]) (by kernel_rfl) (by simp) ?_
     refine AllReadyH.cons (o:=(⟨none,_,_,_,_,none⟩:Oper)) rfl (fun K hK=>?_) AllReadyH.nil
     refine aH rfl 98 (.tmp 17) (.tmp 71) rfl (g1042) _ _ _ (OE.out.get 13 rfl) rfl rfl (ay _ _ HL1043.out dG.out) (cZ HL1043.out) (av _ _) ?_
     intro w1044 Zd LC hz1044
     have HB1044:=acD (OE.out.put 13 rfl LC Zd)
     have HK1044:=acD (Oe.out.cO LC (fun i hi e=>absurd hi (by rw [e];exact Nat.not_lt.2 HN1042.out)))
     clear Zd LC hz1044
     clear OE
     clear Oe
     clear hHeld
     refine hK.out _ _ (HK1044.out) (fun hHeld=>?_)
     clear hK K
     (try simp only [Act.put])
     refine wpAnyH_done (by kernel_rfl) ?_ _
     go_wp2_with fail
     go_meet
     exact ⟨_,_,rfl,HZ1043.out,HB1044.out⟩
    exact AllReadyH.nil
   refine AllReadyH.cons (o:=(⟨some 17,_,_,_,_,none⟩:Oper)) rfl (fun K hK=>?_) ?_
   ·refine bg rfl 98 rfl _ (dN.out _) ?_
    have Gx:=acD (eB.out.alloc (arr .i64 ze) 98)
    have Gi:=acD (dZ.out.alloc (.cells (arr .i64 ze) 98))
    have HN1045:=acD (show Dh.heap.size≤(wd).heap.size from dZ.out.size)
    generalize (wd).heap.size=g1045 at Gx HN1045 ⊢
    generalize (wd).alloc (.cells (arr .i64 ze) 98)=w1045 at Gx Gi ⊢
    clear eB
    clear dZ
    clear hHeld
    refine hK.out _ _ (Gi.out) (fun hHeld=>?_)
    clear hK K
    (try simp only [Act.put,sA,sZ,sS])
    refine wpAnyH_ready (rs:=[2]) (by kernel_rfl) (by simp) ?_
    refine AllReadyH.cons (o:=(⟨some 69,_,_,_,_,none⟩:Oper)) rfl (fun K hK=>?_) AllReadyH.nil
    go_simp
    go_at_call 78
    refine (ji _ _ _ _ _ HCe.out HDe.out).mono ?_
    rintro e w1046 ⟨z1046,rfl,aaD,Mx⟩
    have HZ1046:=acD aaD
    have HL1046:=acD aaD.1
    clear aaD
    have HB1046:=acD (Gx.out.kept Mx)
    have Od:=acD (Gi.out.trans (Kept.of_below Mx))
    clear Mx
    (try dsimp only)
    clear Gx
    clear Gi
    clear hHeld
    refine hK.out _ _ (Od.out) (fun hHeld=>?_)
    clear hK K
    (try simp only [Act.put,sA,sZ,sS])
    refine wpAnyH_ready (rs:=[4]) (by kernel_rfl) (by simp) ?_
    refine AllReadyH.cons (o:=(⟨some 71,_,_,_,_,none⟩:Oper)) rfl (fun K hK=>?_) AllReadyH.nil
    go_simp
    go_at_call 68
    refine (bL _ _ _ _ _ HZ1046.out Bh.out).mono ?_
    rintro e w1047 ⟨z1047,rfl,aaC,Mw⟩
    have HZ1047:=acD aaC
    have HL1047:=acD aaC.1
    clear aaC
    have OD:=acD (HB1046.out.kept Mw)
    have Oc:=acD (Od.out.trans (Kept.of_below Mw))
    clear Mw
    (try dsimp only)
    clear HB1046
    clear Od
    clear hHeld
    refine hK.out _ _ (Oc.out) (fun hHeld=>?_)
    clear hK K
    (try simp only [Act.put,sA,sZ,sS])
    refine wpAnyH_ready (rs:=[6]) (by kernel_rfl) (by simp) ?_
    refine AllReadyH.cons (o:=(⟨none,_,_,_,_,none⟩:Oper)) rfl (fun K hK=>?_) AllReadyH.nil
    refine aH rfl 98 (.tmp 17) (.tmp 71) rfl (g1045) _ _ _ (OD.out.get 13 rfl) rfl rfl (ay _ _ HL1047.out dG.out) (cZ HL1047.out) (av _ _) ?_
    intro w1048 Zc LB hz1048
    have HB1048:=acD (OD.out.put 13 rfl LB Zc)
    have HK1048:=acD (Oc.out.cO LB (fun i hi e=>absurd hi (by rw [e];exact Nat.not_lt.2 HN1045.out)))
    clear Zc LB hz1048
    clear OD
    clear Oc
    clear hHeld
    refine hK.out _ _ (HK1048.out) (fun hHeld=>?_)
    clear hK K
    (try simp only [Act.put])
    refine wpAnyH_done (by kernel_rfl) ?_ _
    go_wp2_with fail
    go_meet
    exact ⟨_,_,rfl,HZ1047.out,HB1048.out⟩
   exact AllReadyH.nil
  case rest =>
  obtain ⟨Rj,rfl⟩:∃ x:World,x=wc:=⟨_,rfl⟩
  obtain ⟨gy20,xy20,rfl,h1,hb1⟩:=hcut
  have QZ:=acD hb1
  have HXy20:=acD h1
  have HLy20:=acD h1.1
  clear h1 hb1
  go_upto_region 21 with fail
  go_cut [18] (fun us' wx=>∃ gg xx,us' = .pointer (some ⟨gg,0,none⟩)∧El xx (aA (aL S.c S.d) (aX S.a S.b))∧bM w wx [(w.heap.size,arr .u8 kc, 23),(w.heap.size+1,arr .u8 um, 23),(w.heap.size+1+1,arr .u8 zn, 23),(DW,(arr .i64 Df), 98),(oI,arr .i64 ta, 98),(g1009,arr .i64 tb, 98),(rA,arr .i64 tc, 98),(oH,arr .i64 td, 98),(I5,(arr .i64 G5), 98),(I4,(arr .i64 GZ), 98),(IZ,(arr .i64 GY), 98),(IY,(arr .i64 OV), 98),(aaR,(arr .i64 OU), 98),(gy20,arr .i64 xy20, 98),(gg,arr .i64 xx, 98)])
  case first =>
   have dZ:=acD ((Kept.refl (fun _=>False) Rj).drew)
   have eB:=acD (QZ.out.drew)
   refine wp_region_held_drew (S:=(fun w'=>Kept (fun _=>False) Rj w')) (by kernel_rfl) (dZ.out) (fun hHeld=>?_)
   generalize Rj.drew=wd at dZ eB hHeld ⊢
   refine' wpAnyH_take (i:=0) (oi:=(⟨some 72,_,_,_,_,none⟩:Oper)) (v:=_) rfl (by kernel_rfl) (by kernel_rfl) (by kernel_rfl) (fun _ _ _ h=>h) (yieldsIf_load_mid (by rfl) _ _ rfl _ _ rfl (tc.map (Value.int .i64)) _ ?hS1049 Tryd.underlying98 rfl (by rw [acE];exact bJ HCl.out)) (by assumption) ?rest1049
   case hS1049=>(intro w hSw;(try dsimp only at hSw);exact aN (hSw.blk (QZ.out.get 6 rfl) (fun e=>e.elim)) 0 _ (by rw [acE];exact au _ _))
   (try simp only [Act.put,sA,sZ,sS])
   refine' wpAnyH_take (i:=1) (oi:=(⟨some 73,_,_,_,_,none⟩:Oper)) (v:=_) rfl (by kernel_rfl) (by kernel_rfl) (by kernel_rfl) (fun _ _ _ h=>h) (yieldsIf_load_mid (by rfl) _ _ rfl _ _ rfl (td.map (Value.int .i64)) _ ?hS1050 Tryd.underlying98 rfl (by rw [acE];exact bJ HDl.out)) (by assumption) ?rest1050
   case hS1050=>(intro w hSw;(try dsimp only at hSw);exact aN (hSw.blk (QZ.out.get 7 rfl) (fun e=>e.elim)) 0 _ (by rw [acE];exact au _ _))
   (try simp only [Act.put,sA,sZ,sS])
   refine' wpAnyH_take (i:=3) (oi:=(⟨some 75,_,_,_,_,none⟩:Oper)) (v:=_) rfl (by kernel_rfl) (by kernel_rfl) (by kernel_rfl) (fun _ _ _ h=>h) (yieldsIf_load_mid (by rfl) _ _ rfl _ _ rfl (GY.map (Value.int .i64)) _ ?hS1051 Tryd.underlying98 rfl (by rw [acE];exact bJ Bu.out)) (by assumption) ?rest1051
   case hS1051=>(intro w hSw;(try dsimp only at hSw);exact aN (hSw.blk (QZ.out.get 10 rfl) (fun e=>e.elim)) 0 _ (by rw [acE];exact au _ _))
   (try simp only [Act.put,sA,sZ,sS])
   refine wpAnyH_ready (rs:=[2,5]) (by kernel_rfl) (by simp) ?_
   refine AllReadyH.cons (o:=(⟨some 74,_,_,_,_,none⟩:Oper)) rfl (fun K hK=>?_) ?_
   ·go_simp
    go_at_call 77
    refine (iW _ _ _ _ _ HCe.out HDe.out).mono ?_
    rintro e U1 ⟨z1052,rfl,aaB,Mv⟩
    have HZ1052:=acD aaB
    have HL1052:=acD aaB.1
    clear aaB
    have Gw:=acD (eB.out.kept Mv)
    have wP:=acD (dZ.out.trans (Kept.of_below Mv))
    clear Mv
    (try dsimp only)
    clear eB
    clear dZ
    clear hHeld
    refine hK.out _ _ (wP.out) (fun hHeld=>?_)
    clear hK K
    (try simp only [Act.put,sA,sZ,sS])
    refine wpAnyH_ready (rs:=[4,5]) (by kernel_rfl) (by simp) ?_
    refine AllReadyH.cons (o:=(⟨some 76,_,_,_,_,none⟩:Oper)) rfl (fun K hK=>?_) ?_
    ·go_simp
     go_at_call 68
     refine (bL _ _ _ _ _ HZ1052.out Bf.out).mono ?_
     rintro e U0 ⟨z1053,rfl,aaA,Mt⟩
     have HZ1053:=acD aaA
     have HL1053:=acD aaA.1
     clear aaA
     have HB1053:=acD (Gw.out.kept Mt)
     have Gh:=acD (wP.out.trans (Kept.of_below Mt))
     clear Mt
     (try dsimp only)
     clear Gw
     clear wP
     clear hHeld
     refine hK.out _ _ (Gh.out) (fun hHeld=>?_)
     clear hK K
     (try simp only [Act.put,sA,sZ,sS])
     refine wpAnyH_ready (rs:=[5]) (by kernel_rfl) (by simp) ?_
     refine AllReadyH.cons (o:=(⟨some 18,_,_,_,_,none⟩:Oper)) rfl (fun K hK=>?_) AllReadyH.nil
     refine bg rfl 98 rfl _ (dN.out _) ?_
     have BS:=acD (HB1053.out.alloc (arr .i64 ze) 98)
     have Gg:=acD (Gh.out.alloc (.cells (arr .i64 ze) 98))
     have HN1054:=acD (show Rj.heap.size≤(U0).heap.size from Gh.out.size)
     generalize (U0).heap.size=g1054 at BS HN1054 ⊢
     generalize (U0).alloc (.cells (arr .i64 ze) 98)=w1054 at BS Gg ⊢
     clear HB1053
     clear Gh
     clear hHeld
     refine hK.out _ _ (Gg.out) (fun hHeld=>?_)
     clear hK K
     (try simp only [Act.put,sA,sZ,sS])
     refine wpAnyH_ready (rs:=[6]) (by kernel_rfl) (by simp) ?_
     refine AllReadyH.cons (o:=(⟨none,_,_,_,_,none⟩:Oper)) rfl (fun K hK=>?_) AllReadyH.nil
     refine aH rfl 98 (.tmp 18) (.tmp 76) rfl (g1054) _ _ _ (BS.out.get 14 rfl) rfl rfl (ay _ _ HL1053.out dG.out) (cZ HL1053.out) (av _ _) ?_
     intro w1055 Zb LA hz1055
     have HB1055:=acD (BS.out.put 14 rfl LA Zb)
     have HK1055:=acD (Gg.out.cO LA (fun i hi e=>absurd hi (by rw [e];exact Nat.not_lt.2 HN1054.out)))
     clear Zb LA hz1055
     clear BS
     clear Gg
     clear hHeld
     refine hK.out _ _ (HK1055.out) (fun hHeld=>?_)
     clear hK K
     (try simp only [Act.put])
     refine wpAnyH_done (by kernel_rfl) ?_ _
     go_wp2_with fail
     go_meet
     exact ⟨_,_,rfl,HZ1053.out,HB1055.out⟩
    refine AllReadyH.cons (o:=(⟨some 18,_,_,_,_,none⟩:Oper)) rfl (fun K hK=>?_) ?_
    ·refine bg rfl 98 rfl _ (dN.out _) ?_
     have Gv:=acD (Gw.out.alloc (arr .i64 ze) 98)
     have Gf:=acD (wP.out.alloc (.cells (arr .i64 ze) 98))
     have HN1056:=acD (show Rj.heap.size≤(U1).heap.size from wP.out.size)
     generalize (U1).heap.size=g1056 at Gv HN1056 ⊢
     generalize (U1).alloc (.cells (arr .i64 ze) 98)=w1056 at Gv Gf ⊢
     clear Gw
     clear wP
     clear hHeld
     refine hK.out _ _ (Gf.out) (fun hHeld=>?_)
     clear hK K
     (try simp only [Act.put,sA,sZ,sS])
     refine wpAnyH_ready (rs:=[4]) (by kernel_rfl) (by simp) ?_
     refine AllReadyH.cons (o:=(⟨some 76,_,_,_,_,none⟩:Oper)) rfl (fun K hK=>?_) AllReadyH.nil
     go_simp
     go_at_call 68
     refine (bL _ _ _ _ _ HZ1052.out Bf.out).mono ?_
     rintro e w1057 ⟨z1057,rfl,Z9,Mr⟩
     have HZ1057:=acD Z9
     have HL1057:=acD Z9.1
     clear Z9
     have OC:=acD (Gv.out.kept Mr)
     have Ob:=acD (Gf.out.trans (Kept.of_below Mr))
     clear Mr
     (try dsimp only)
     clear Gv
     clear Gf
     clear hHeld
     refine hK.out _ _ (Ob.out) (fun hHeld=>?_)
     clear hK K
     (try simp only [Act.put,sA,sZ,sS])
     refine wpAnyH_ready (rs:=[6]) (by kernel_rfl) (by simp) ?_
     refine AllReadyH.cons (o:=(⟨none,_,_,_,_,none⟩:Oper)) rfl (fun K hK=>?_) AllReadyH.nil
     refine aH rfl 98 (.tmp 18) (.tmp 76) rfl (g1056) _ _ _ (OC.out.get 14 rfl) rfl rfl (ay _ _ HL1057.out dG.out) (cZ HL1057.out) (av _ _) ?_
     intro w1058 Za Lx hz1058
     have HB1058:=acD (OC.out.put 14 rfl Lx Za)
     have HK1058:=acD (Ob.out.cO Lx (fun i hi e=>absurd hi (by rw [e];exact Nat.not_lt.2 HN1056.out)))
     clear Za Lx hz1058
     clear OC
     clear Ob
     clear hHeld
     refine hK.out _ _ (HK1058.out) (fun hHeld=>?_)
     clear hK K
     (try simp only [Act.put])
     refine wpAnyH_done (by kernel_rfl) ?_ _
     go_wp2_with fail
     go_meet
     exact ⟨_,_,rfl,HZ1057.out,HB1058.out⟩
    exact AllReadyH.nil
   refine AllReadyH.cons (o:=(⟨some 18,_,_,_,_,none⟩:Oper)) rfl (fun K hK=>?_) ?_
   ·refine bg rfl 98 rfl _ (dN.out _) ?_
    have Gu:=acD (eB.out.alloc (arr .i64 ze) 98)
    have Gd:=acD (dZ.out.alloc (.cells (arr .i64 ze) 98))
    have HN1059:=acD (show Rj.heap.size≤(wd).heap.size from dZ.out.size)
    generalize (wd).heap.size=g1059 at Gu HN1059 ⊢
    generalize (wd).alloc (.cells (arr .i64 ze) 98)=w1059 at Gu Gd ⊢
    clear eB
    clear dZ
    clear hHeld
    refine hK.out _ _ (Gd.out) (fun hHeld=>?_)
    clear hK K
    (try simp only [Act.put,sA,sZ,sS])
    refine wpAnyH_ready (rs:=[2]) (by kernel_rfl) (by simp) ?_
    refine AllReadyH.cons (o:=(⟨some 74,_,_,_,_,none⟩:Oper)) rfl (fun K hK=>?_) AllReadyH.nil
    go_simp
    go_at_call 77
    refine (iW _ _ _ _ _ HCe.out HDe.out).mono ?_
    rintro e w1060 ⟨z1060,rfl,Z8,Mq⟩
    have HZ1060:=acD Z8
    have HL1060:=acD Z8.1
    clear Z8
    have HB1060:=acD (Gu.out.kept Mq)
    have Oa:=acD (Gd.out.trans (Kept.of_below Mq))
    clear Mq
    (try dsimp only)
    clear Gu
    clear Gd
    clear hHeld
    refine hK.out _ _ (Oa.out) (fun hHeld=>?_)
    clear hK K
    (try simp only [Act.put,sA,sZ,sS])
    refine wpAnyH_ready (rs:=[4]) (by kernel_rfl) (by simp) ?_
    refine AllReadyH.cons (o:=(⟨some 76,_,_,_,_,none⟩:Oper)) rfl (fun K hK=>?_) AllReadyH.nil
    go_simp
    go_at_call 68
    refine (bL _ _ _ _ _ HZ1060.out Bf.out).mono ?_
    rintro e w1061 ⟨z1061,rfl,Z7,Ml⟩
    have HZ1061:=acD Z7
    have HL1061:=acD Z7.1
    clear Z7
    have OB:=acD (HB1060.out.kept Ml)
    have N9:=acD (Oa.out.trans (Kept.of_below Ml))
    clear Ml
    (try dsimp only)
    clear HB1060
    clear Oa
    clear hHeld
    refine hK.out _ _ (N9.out) (fun hHeld=>?_)
    clear hK K
    (try simp only [Act.put,sA,sZ,sS])
    refine wpAnyH_ready (rs:=[6]) (by kernel_rfl) (by simp) ?_
    refine AllReadyH.cons (o:=(⟨none,_,_,_,_,none⟩:Oper)) rfl (fun K hK=>?_) AllReadyH.nil
    refine aH rfl 98 (.tmp 18) (.tmp 76) rfl (g1059) _ _ _ (OB.out.get 14 rfl) rfl rfl (ay _ _ HL1061.out dG.out) (cZ HL1061.out) (av _ _) ?_
    intro w1062 Y9 Lv hz1062
    have HB1062:=acD (OB.out.put 14 rfl Lv Y9)
    have HK1062:=acD (N9.out.cO Lv (fun i hi e=>absurd hi (by rw [e];exact Nat.not_lt.2 HN1059.out)))
    clear Y9 Lv hz1062
    clear OB
    clear N9
    clear hHeld
    refine hK.out _ _ (HK1062.out) (fun hHeld=>?_)
    clear hK K
    (try simp only [Act.put])
    refine wpAnyH_done (by kernel_rfl) ?_ _
    go_wp2_with fail
    go_meet
    exact ⟨_,_,rfl,HZ1061.out,HB1062.out⟩
   exact AllReadyH.nil
  case rest =>
  obtain ⟨wy21,rfl⟩:∃ x:World,x=wc:=⟨_,rfl⟩
  obtain ⟨gy21,xy21,rfl,h1,hb1⟩:=hcut
  have HBy21:=acD hb1
  have HXy21:=acD h1
  have HLy21:=acD h1.1
  clear h1 hb1
  go_upto_region 23 with (first|((with_reducible refine aS 77 ?_);refine lL rfl rfl (HBy21.out.get 13 rfl) rfl (au _ _) Tryd.underlying98 rfl (bJ HLy20.out) ?_)|((with_reducible refine aS 78 ?_);refine lL rfl rfl (HBy21.out.get 14 rfl) rfl (au _ _) Tryd.underlying98 rfl (bJ HLy21.out) ?_)|((with_reducible show Calls _ 77 #[.agg _, .agg _] _ _);go_at_call 77; refine (iW _ _ _ _ _ HXy20.out HXy21.out).mono ?_;rintro e w1063 ⟨z1063,rfl,Z6,Y8⟩;have HZ1063:=acD Z6;have F5:=acD Z6.1;clear Z6;have HB1063:=acD (HBy21.out.kept Y8);clear Y8)|((with_reducible refine aS 19 ?_);refine lA rfl rfl (dN.out _) HB1063 ?_;intro aaQ w1064 BR; clear HB1063)|((with_reducible refine aT 19 (x:=(Operand.tmp 79)) ?_);refine lS rfl rfl BR 15 rfl rfl rfl (ay _ _ F5.out dG.out) (cZ F5.out) (av _ _) ?_;intro w1065 Gt;clear BR))
  go_upto_region 24 with (first|((with_reducible refine aS 80 ?_);refine lL rfl rfl (Gt.out.get 13 rfl) rfl (au _ _) Tryd.underlying98 rfl (bJ HLy20.out) ?_)|((with_reducible refine aS 81 ?_);refine lL rfl rfl (Gt.out.get 14 rfl) rfl (au _ _) Tryd.underlying98 rfl (bJ HLy21.out) ?_)|((with_reducible show Calls _ 78 #[.agg _, .agg _] _ _);go_at_call 78; refine (ji _ _ _ _ _ HXy20.out HXy21.out).mono ?_;rintro e w1066 ⟨z1066,rfl,Z5,Y6⟩;have HZ1066:=acD Z5;have F4:=acD Z5.1;clear Z5;have HB1066:=acD (Gt.out.kept Y6);clear Y6;clear Gt)|((with_reducible refine aS 20 ?_);refine lA rfl rfl (dN.out _) HB1066 ?_;intro g1067 w1067 BQ; clear HB1066)|((with_reducible refine aT 20 (x:=(Operand.tmp 82)) ?_);refine lS rfl rfl BQ 16 rfl rfl rfl (ay _ _ F4.out dG.out) (cZ F4.out) (av _ _) ?_;intro w1068 Gs;clear BQ))
  go_upto_region 25 with (first|((with_reducible refine aS 83 ?_);refine lL rfl rfl (Gs.out.get 15 rfl) rfl (au _ _) Tryd.underlying98 rfl (bJ F5.out) ?_)|((with_reducible refine aS 84 ?_);refine lL rfl rfl (Gs.out.get 15 rfl) rfl (au _ _) Tryd.underlying98 rfl (bJ F5.out) ?_)|((with_reducible show Calls _ 68 #[.agg _, .agg _] _ _);go_at_call 68; refine (bL _ _ _ _ _ HZ1063.out HZ1063.out).mono ?_;rintro e w1069 ⟨z1069,rfl,Z0,Y4⟩;have HZ1069:=acD Z0;have wL:=acD Z0.1;clear Z0;have OA:=acD (Gs.out.kept Y4);clear Y4;clear Gs)|((with_reducible refine aT 8 (x:=(Operand.tmp 85)) ?_);refine lS rfl rfl OA 6 rfl rfl rfl (ay _ _ wL.out HCl.out) (cZ wL.out) (av _ _) ?_;intro UZ tO;clear OA))
  (try simp only [Act.put])
  have dZ:=acD ((Kept.refl (fun x=>x=oH) UZ).drew)
  have eB:=acD (tO.out.drew)
  refine wp_region_held_drew (S:=(fun w'=>Kept (fun x=>x=oH) UZ w')) (by kernel_rfl) (dZ.out) (fun hHeld=>?_)
  generalize UZ.drew=wd at dZ eB hHeld ⊢
  refine' wpAnyH_take (i:=0) (oi:=(⟨some 86,_,_,_,_,none⟩:Oper)) (v:=_) rfl (by kernel_rfl) (by kernel_rfl) (by kernel_rfl) (fun _ _ _ h=>h) (yieldsIf_load_mid (by rfl) _ _ rfl _ _ rfl (Df.map (Value.int .i64)) _ ?hS1071 Tryd.underlying98 rfl (by rw [acE];exact bJ wM.out)) (by assumption) ?rest1071
  case hS1071=>(intro w hSw;(try dsimp only at hSw);exact aN (hSw.blk (tO.out.get 3 rfl) (tO.out.ne 3 7 rfl rfl (by decide))) 0 _ (by rw [acE];exact au _ _))
  (try simp only [Act.put,sA,sZ,sS])
  refine' wpAnyH_take (i:=1) (oi:=(⟨some 87,_,_,_,_,none⟩:Oper)) (v:=_) rfl (by kernel_rfl) (by kernel_rfl) (by kernel_rfl) (fun _ _ _ h=>h) (yieldsIf_load_mid (by rfl) _ _ rfl _ _ rfl (z1066.map (Value.int .i64)) _ ?hS1072 Tryd.underlying98 rfl (by rw [acE];exact bJ F4.out)) (by assumption) ?rest1072
  case hS1072=>(intro w hSw;(try dsimp only at hSw);exact aN (hSw.blk (tO.out.get 16 rfl) (tO.out.ne 16 7 rfl rfl (by decide))) 0 _ (by rw [acE];exact au _ _))
  (try simp only [Act.put,sA,sZ,sS])
  refine' wpAnyH_take (i:=2) (oi:=(⟨some 88,_,_,_,_,none⟩:Oper)) (v:=_) rfl (by kernel_rfl) (by kernel_rfl) (by kernel_rfl) (fun _ _ _ h=>h) (yieldsIf_load_mid (by rfl) _ _ rfl _ _ rfl (z1066.map (Value.int .i64)) _ ?hS1073 Tryd.underlying98 rfl (by rw [acE];exact bJ F4.out)) (by assumption) ?rest1073
  case hS1073=>(intro w hSw;(try dsimp only at hSw);exact aN (hSw.blk (tO.out.get 16 rfl) (tO.out.ne 16 7 rfl rfl (by decide))) 0 _ (by rw [acE];exact au _ _))
  (try simp only [Act.put,sA,sZ,sS])
  refine wpAnyH_ready (rs:=[3]) (by kernel_rfl) (by simp) ?_
  refine AllReadyH.cons (o:=(⟨some 89,_,_,_,_,none⟩:Oper)) rfl (fun K hK=>?_) AllReadyH.nil
  go_simp
  go_at_call 68
  refine (bL _ _ _ _ _ HZ1066.out HZ1066.out).mono ?_
  rintro e w1074 ⟨z1074,rfl,ZY,Mk⟩
  have HZ1074:=acD ZY
  have HL1074:=acD ZY.1
  clear ZY
  have HB1074:=acD (eB.out.kept Mk)
  have N8:=acD (dZ.out.trans (Kept.of_below Mk))
  clear Mk
  (try dsimp only)
  clear eB
  clear dZ
  clear hHeld
  refine hK.out _ _ (N8.out) (fun hHeld=>?_)
  clear hK K
  (try simp only [Act.put,sA,sZ,sS])
  refine wpAnyH_ready (rs:=[4]) (by kernel_rfl) (by simp) ?_
  refine AllReadyH.cons (o:=(⟨some 90,_,_,_,_,none⟩:Oper)) rfl (fun K hK=>?_) AllReadyH.nil
  go_simp
  go_at_call 68
  refine (bL _ _ _ _ _ HZ1003.out HZ1074.out).mono ?_
  rintro e w1075 ⟨z1075,rfl,ZX,Mj⟩
  have HZ1075:=acD ZX
  have wK:=acD ZX.1
  clear ZX
  have Oz:=acD (HB1074.out.kept Mj)
  have N7:=acD (N8.out.trans (Kept.of_below Mj))
  clear Mj
  (try dsimp only)
  clear HB1074
  clear N8
  clear hHeld
  refine hK.out _ _ (N7.out) (fun hHeld=>?_)
  clear hK K
  (try simp only [Act.put,sA,sZ,sS])
  refine wpAnyH_ready (rs:=[5]) (by kernel_rfl) (by simp) ?_
  refine AllReadyH.cons (o:=(⟨none,_,_,_,_,none⟩:Oper)) rfl (fun K hK=>?_) AllReadyH.nil
  refine aH rfl 98 (.tmp 9) (.tmp 90) rfl (oH) _ _ _ (Oz.out.get 7 rfl) rfl rfl (ay _ _ wK.out HDl.out) (cZ wK.out) (av _ _) ?_
  intro w1076 Y2 Lu hz1076
  have Gr:=acD (Oz.out.put 7 rfl Lu Y2)
  have HK1076:=acD (N7.out.trans Lu)
  clear Y2 Lu hz1076
  clear Oz
  clear N7
  clear hHeld
  refine hK.out _ _ (HK1076.out) (fun hHeld=>?_)
  clear hK K
  (try simp only [Act.put])
  refine wpAnyH_done (by kernel_rfl) ?_ _
  (try simp only [Exit.then])
  go_upto_region 27 with (first|((with_reducible refine aS 91 ?_);refine lL rfl rfl (Gr.out.get 9 rfl) rfl (au _ _) Tryd.underlying98 rfl (bJ Bv.out) ?_)|((with_reducible refine aS 92 ?_);refine lL rfl rfl (Gr.out.get 11 rfl) rfl (au _ _) Tryd.underlying98 rfl (bJ F7.out) ?_)|((with_reducible show Calls _ 68 #[.agg _, .agg _] _ _);go_at_call 68; refine (bL _ _ _ _ _ Nw.out HZ1029.out).mono ?_;rintro e w1077 ⟨z1077,rfl,ZW,Y1⟩;have HZ1077:=acD ZW;have wJ:=acD ZW.1;clear ZW;have Oy:=acD (Gr.out.kept Y1);clear Y1;clear Gr)|((with_reducible refine aT 6 (x:=(Operand.tmp 93)) ?_);refine lS rfl rfl Oy 4 rfl rfl rfl (ay _ _ wJ.out HAl.out) (cZ wJ.out) (av _ _) ?_;intro UY tN;clear Oy))
  (try simp only [Act.put])
  have dZ:=acD ((Kept.refl (fun x=>x=g1009) UY).drew)
  have eB:=acD (tN.out.drew)
  refine wp_region_held_drew (S:=(fun w'=>Kept (fun x=>x=g1009) UY w')) (by kernel_rfl) (dZ.out) (fun hHeld=>?_)
  generalize UY.drew=wd at dZ eB hHeld ⊢
  refine' wpAnyH_take (i:=0) (oi:=(⟨some 94,_,_,_,_,none⟩:Oper)) (v:=_) rfl (by kernel_rfl) (by kernel_rfl) (by kernel_rfl) (fun _ _ _ h=>h) (yieldsIf_load_mid (by rfl) _ _ rfl _ _ rfl (OU.map (Value.int .i64)) _ ?hS1079 Tryd.underlying98 rfl (by rw [acE];exact bJ F6.out)) (by assumption) ?rest1079
  case hS1079=>(intro w hSw;(try dsimp only at hSw);exact aN (hSw.blk (tN.out.get 12 rfl) (tN.out.ne 12 5 rfl rfl (by decide))) 0 _ (by rw [acE];exact au _ _))
  (try simp only [Act.put,sA,sZ,sS])
  refine' wpAnyH_take (i:=1) (oi:=(⟨some 95,_,_,_,_,none⟩:Oper)) (v:=_) rfl (by kernel_rfl) (by kernel_rfl) (by kernel_rfl) (fun _ _ _ h=>h) (yieldsIf_load_mid (by rfl) _ _ rfl _ _ rfl (GZ.map (Value.int .i64)) _ ?hS1080 Tryd.underlying98 rfl (by rw [acE];exact bJ Bv.out)) (by assumption) ?rest1080
  case hS1080=>(intro w hSw;(try dsimp only at hSw);exact aN (hSw.blk (tN.out.get 9 rfl) (tN.out.ne 9 5 rfl rfl (by decide))) 0 _ (by rw [acE];exact au _ _))
  (try simp only [Act.put,sA,sZ,sS])
  refine' wpAnyH_take (i:=3) (oi:=(⟨some 97,_,_,_,_,none⟩:Oper)) (v:=_) rfl (by kernel_rfl) (by kernel_rfl) (by kernel_rfl) (fun _ _ _ h=>h) (yieldsIf_load_mid (by rfl) _ _ rfl _ _ rfl (OU.map (Value.int .i64)) _ ?hS1081 Tryd.underlying98 rfl (by rw [acE];exact bJ F6.out)) (by assumption) ?rest1081
  case hS1081=>(intro w hSw;(try dsimp only at hSw);exact aN (hSw.blk (tN.out.get 12 rfl) (tN.out.ne 12 5 rfl rfl (by decide))) 0 _ (by rw [acE];exact au _ _))
  (try simp only [Act.put,sA,sZ,sS])
  refine wpAnyH_ready (rs:=[2]) (by kernel_rfl) (by simp) ?_
  refine AllReadyH.cons (o:=(⟨some 96,_,_,_,_,none⟩:Oper)) rfl (fun K hK=>?_) AllReadyH.nil
  go_simp
  go_at_call 71
  refine (gu 121665 _ (by decide)).mono ?_
  rintro e w1082 ⟨z1082,rfl,ZV,Mi⟩
  have HZ1082:=acD ZV
  have HL1082:=acD ZV.1
  clear ZV
  have HB1082:=acD (eB.out.kept Mi)
  have NZ:=acD (dZ.out.trans (Kept.of_below Mi))
  clear Mi
  (try dsimp only)
  clear eB
  clear dZ
  clear hHeld
  refine hK.out _ _ (NZ.out) (fun hHeld=>?_)
  clear hK K
  (try simp only [Act.put,sA,sZ,sS])
  refine wpAnyH_ready (rs:=[4]) (by kernel_rfl) (by simp) ?_
  refine AllReadyH.cons (o:=(⟨some 98,_,_,_,_,none⟩:Oper)) rfl (fun K hK=>?_) AllReadyH.nil
  go_simp
  go_at_call 68
  refine (bL _ _ _ _ _ HZ1082.out HZ1032.out).mono ?_
  rintro e w1083 ⟨z1083,rfl,ZU,Mh⟩
  have HZ1083:=acD ZU
  have HL1083:=acD ZU.1
  clear ZU
  have HB1083:=acD (HB1082.out.kept Mh)
  have NY:=acD (NZ.out.trans (Kept.of_below Mh))
  clear Mh
  (try dsimp only)
  clear HB1082
  clear NZ
  clear hHeld
  refine hK.out _ _ (NY.out) (fun hHeld=>?_)
  clear hK K
  (try simp only [Act.put,sA,sZ,sS])
  refine wpAnyH_ready (rs:=[5]) (by kernel_rfl) (by simp) ?_
  refine AllReadyH.cons (o:=(⟨some 99,_,_,_,_,none⟩:Oper)) rfl (fun K hK=>?_) AllReadyH.nil
  go_simp
  go_at_call 77
  refine (iW _ _ _ _ _ Nw.out HZ1083.out).mono ?_
  rintro e w1084 ⟨z1084,rfl,ZT,Mg⟩
  have HZ1084:=acD ZT
  have HL1084:=acD ZT.1
  clear ZT
  have HB1084:=acD (HB1083.out.kept Mg)
  have NW:=acD (NY.out.trans (Kept.of_below Mg))
  clear Mg
  (try dsimp only)
  clear HB1083
  clear NY
  clear hHeld
  refine hK.out _ _ (NW.out) (fun hHeld=>?_)
  clear hK K
  (try simp only [Act.put,sA,sZ,sS])
  refine wpAnyH_ready (rs:=[6]) (by kernel_rfl) (by simp) ?_
  refine AllReadyH.cons (o:=(⟨some 100,_,_,_,_,none⟩:Oper)) rfl (fun K hK=>?_) AllReadyH.nil
  go_simp
  go_at_call 68
  refine (bL _ _ _ _ _ HZ1032.out HZ1084.out).mono ?_
  rintro e w1085 ⟨z1085,rfl,ZR,Me⟩
  have HZ1085:=acD ZR
  have wI:=acD ZR.1
  clear ZR
  have Ox:=acD (HB1084.out.kept Me)
  have NV:=acD (NW.out.trans (Kept.of_below Me))
  clear Me
  (try dsimp only)
  clear HB1084
  clear NW
  clear hHeld
  refine hK.out _ _ (NV.out) (fun hHeld=>?_)
  clear hK K
  (try simp only [Act.put,sA,sZ,sS])
  refine wpAnyH_ready (rs:=[7]) (by kernel_rfl) (by simp) ?_
  refine AllReadyH.cons (o:=(⟨none,_,_,_,_,none⟩:Oper)) rfl (fun K hK=>?_) AllReadyH.nil
  refine aH rfl 98 (.tmp 7) (.tmp 100) rfl (g1009) _ _ _ (Ox.out.get 5 rfl) rfl rfl (ay _ _ wI.out HBl.out) (cZ wI.out) (av _ _) ?_
  intro w1086 YX Ls hz1086
  have wS:=acD (Ox.out.put 5 rfl Ls YX)
  have HK1086:=acD (NV.out.trans Ls)
  clear YX Ls hz1086
  clear Ox
  clear NV
  clear hHeld
  refine hK.out _ _ (HK1086.out) (fun hHeld=>?_)
  clear hK K
  (try simp only [Act.put])
  refine wpAnyH_done (by kernel_rfl) ?_ _
  (try simp only [Exit.then])
  rcases hb with rfl|rfl
  ·have hbv:(((0:Nat):Int) == 1)=false:=rfl
   go_wp2_with fail
   go_roundw
   case rel =>
    have e:=HI.out
    exact ⟨n+1,by omega,by congr 1;omega,_,_,_,_,by rw [JX.out];exact HZ1077.out,by rw [JX.out];exact HZ1085.out,by rw [JX.out];exact HZ1069.out,by rw [JX.out];exact HZ1075.out,wS.out.less 8⟩
   case measure=>simp [intOf]
  ·have hbv:(((1:Nat):Int) == 1)=true:=rfl
   go_upto_region 30 with (first|((with_reducible refine aS 103 ?_);refine lL rfl rfl (wS.out.get 6 rfl) rfl (au _ _) Tryd.underlying98 rfl (bJ wL.out) ?_)|((with_reducible refine aS 104 ?_);refine lL rfl rfl (wS.out.get 4 rfl) rfl (au _ _) Tryd.underlying98 rfl (bJ wJ.out) ?_)|((with_reducible refine aT 6 (x:=(Operand.tmp 103)) ?_);refine lS rfl rfl wS 4 rfl rfl rfl (ay _ _ wL.out wJ.out) (cZ wL.out) (av _ _) ?_;intro w1087 Ow;clear wS)|((with_reducible refine aT 8 (x:=(Operand.tmp 104)) ?_);refine lS rfl rfl Ow 6 rfl rfl rfl (ay _ _ wJ.out wL.out) (cZ wJ.out) (av _ _) ?_;intro w1088 BP;clear Ow))
   go_wp2_with (first|((with_reducible refine aS 105 ?_);refine lL rfl rfl (BP.out.get 7 rfl) rfl (au _ _) Tryd.underlying98 rfl (bJ wK.out) ?_)|((with_reducible refine aS 106 ?_);refine lL rfl rfl (BP.out.get 5 rfl) rfl (au _ _) Tryd.underlying98 rfl (bJ wI.out) ?_)|((with_reducible refine aT 7 (x:=(Operand.tmp 105)) ?_);refine lS rfl rfl BP 5 rfl rfl rfl (ay _ _ wK.out wI.out) (cZ wK.out) (av _ _) ?_;intro w1089 Ov;clear BP)|((with_reducible refine aT 9 (x:=(Operand.tmp 106)) ?_);refine lS rfl rfl Ov 7 rfl rfl rfl (ay _ _ wI.out wK.out) (cZ wI.out) (av _ _) ?_;intro w1090 HB1090;clear Ov))
   go_roundw
   case rel =>
    have e:=HI.out
    exact ⟨n+1,by omega,by congr 1;omega,_,_,_,_,by rw [JX.out];exact HZ1069.out,by rw [JX.out];exact HZ1075.out,by rw [JX.out];exact HZ1077.out,by rw [JX.out];exact HZ1085.out,HB1090.out.less 8⟩
   case measure=>simp [intOf]
 ·obtain rfl:n=255:=by omega
  have hz:(254:Int) - ((255:Nat):Int) = -1:=by omega
  rw [hz]
  have hout:=fun xs w (h:El xs (aA (Fb X K 255).a (finv (Fb X K 255).b)))=>nR xs _ w h
  obtain ⟨ro,hro⟩:∃ x,x=aW (bD 256 32 (aA (Fb X K 255).a (finv (Fb X K 255).b))):=⟨_,rfl⟩
  have iG:Hid (ro.length=32):=acD (by rw [hro,aJ,aK])
  rw [← hro] at hout
  have HOUT:=acD hout
  have HRO:=acD hro
  clear hz hout hro
  go_upto_region 31 with fail
  have dZ:=acD ((Kept.refl (fun x=>x=w.heap.size+1+1) wr).drew)
  have eB:=acD (HB.out.drew)
  refine wp_region_held_drew (S:=(fun w'=>Kept (fun x=>x=w.heap.size+1+1) wr w')) (by kernel_rfl) (dZ.out) (fun hHeld=>?_)
  generalize wr.drew=wd at dZ eB hHeld ⊢
  refine' wpAnyH_take (i:=0) (oi:=(⟨some 107,_,_,_,_,none⟩:Oper)) (v:=_) rfl (by kernel_rfl) (by kernel_rfl) (by kernel_rfl) (fun _ _ _ h=>h) (yieldsIf_load_mid (by rfl) _ _ rfl _ _ rfl (la.map (Value.int .i64)) _ ?hS1091 Tryd.underlying98 rfl (by rw [acE];exact bJ HAl.out)) (by assumption) ?rest1091
  case hS1091=>(intro w hSw;(try dsimp only at hSw);exact aN (hSw.blk (HB.out.get 4 rfl) (HB.out.ne 4 2 rfl rfl (by decide))) 0 _ (by rw [acE];exact au _ _))
  (try simp only [Act.put,sA,sZ,sS])
  refine' wpAnyH_take (i:=1) (oi:=(⟨some 108,_,_,_,_,none⟩:Oper)) (v:=_) rfl (by kernel_rfl) (by kernel_rfl) (by kernel_rfl) (fun _ _ _ h=>h) (yieldsIf_load_mid (by rfl) _ _ rfl _ _ rfl (lb.map (Value.int .i64)) _ ?hS1092 Tryd.underlying98 rfl (by rw [acE];exact bJ HBl.out)) (by assumption) ?rest1092
  case hS1092=>(intro w hSw;(try dsimp only at hSw);exact aN (hSw.blk (HB.out.get 5 rfl) (HB.out.ne 5 2 rfl rfl (by decide))) 0 _ (by rw [acE];exact au _ _))
  (try simp only [Act.put,sA,sZ,sS])
  refine wpAnyH_ready (rs:=[2]) (by kernel_rfl) (by simp) ?_
  refine AllReadyH.cons (o:=(⟨some 109,_,_,_,_,none⟩:Oper)) rfl (fun K hK=>?_) AllReadyH.nil
  go_simp
  go_at_call 66
  refine (Fq _ _ _ HBe.out).mono ?_
  rintro e w1093 ⟨z1093,rfl,ZQ,Md⟩
  have HZ1093:=acD ZQ
  have HL1093:=acD ZQ.1
  clear ZQ
  have HB1093:=acD (eB.out.kept Md)
  have NU:=acD (dZ.out.trans (Kept.of_below Md))
  clear Md
  (try dsimp only)
  clear eB
  clear dZ
  clear hHeld
  refine hK.out _ _ (NU.out) (fun hHeld=>?_)
  clear hK K
  (try simp only [Act.put,sA,sZ,sS])
  refine wpAnyH_ready (rs:=[3]) (by kernel_rfl) (by simp) ?_
  refine AllReadyH.cons (o:=(⟨some 110,_,_,_,_,none⟩:Oper)) rfl (fun K hK=>?_) AllReadyH.nil
  go_simp
  go_at_call 68
  refine (bL _ _ _ _ _ HAe.out HZ1093.out).mono ?_
  rintro e w1094 ⟨z1094,rfl,ZP,Mc⟩
  have HZ1094:=acD ZP
  have HL1094:=acD ZP.1
  clear ZP
  have HB1094:=acD (HB1093.out.kept Mc)
  have NT:=acD (NU.out.trans (Kept.of_below Mc))
  clear Mc
  (try dsimp only)
  clear HB1093
  clear NU
  clear hHeld
  refine hK.out _ _ (NT.out) (fun hHeld=>?_)
  clear hK K
  (try simp only [Act.put,sA,sZ,sS])
  refine wpAnyH_ready (rs:=[4]) (by kernel_rfl) (by simp) ?_
  refine AllReadyH.cons (o:=(⟨some 111,_,_,_,_,none⟩:Oper)) rfl (fun K hK=>?_) AllReadyH.nil
  go_simp
  go_at_call 67
  refine (HOUT.out _ _ HZ1094.out).mono ?_
  rintro e w1095 ⟨rfl,Ma⟩
  have Ou:=acD (HB1094.out.kept Ma)
  have NS:=acD (NT.out.trans (Kept.of_below Ma))
  clear Ma
  (try dsimp only)
  clear HB1094
  clear NT
  clear hHeld
  refine hK.out _ _ (NS.out) (fun hHeld=>?_)
  clear hK K
  (try simp only [Act.put,sA,sZ,sS])
  refine wpAnyH_ready (rs:=[5]) (by kernel_rfl) (by simp) ?_
  refine AllReadyH.cons (o:=(⟨none,_,_,_,_,none⟩:Oper)) rfl (fun K hK=>?_) AllReadyH.nil
  refine aH rfl 23 (.tmp 4) (.tmp 111) rfl (w.heap.size+1+1) _ _ _ (Ou.out.get 2 rfl) rfl rfl (ay _ _ iG.out cK.out) (bE iG.out) (av _ _) ?_
  intro w1096 YR Lr hz1096
  have HB1096:=acD (Ou.out.put 2 rfl Lr YR)
  have HK1096:=acD (NS.out.trans Lr)
  clear YR Lr hz1096
  clear Ou
  clear NS
  clear hHeld
  refine hK.out _ _ (HK1096.out) (fun hHeld=>?_)
  clear hK K
  (try simp only [Act.put])
  refine wpAnyH_done (by kernel_rfl) ?_ _
  have rF:=HB1096
  (try simp only [Exit.then])
  go_wp2_with fail
  refine bodyPost_ret (results_cell_row rfl _ _ (w.heap.size+1+1) 23 _ (0,0) _ rfl (rF.out.get 2 rfl) Tryd.underlying23 rfl (bE iG.out)) rfl ?_
  exact ⟨by rw [HRO.out],rF.out.below⟩
end Go.Proofs.YthdgbgleklkaiaaDoor.Rd
