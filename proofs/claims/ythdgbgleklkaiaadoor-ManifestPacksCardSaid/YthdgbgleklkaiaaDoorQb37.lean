/- The document's Poly. Condition: as each theorem says. -/
import Derived.Deep.CutBlock
import Derived.Deep.DeepCutAuto
import Derived.Shelf.Bits.Mul64
import Derived.Shelf.Spec.BitsCarry
import Derived.Test.YthdgbgleklkaiaaDoorQb01
import Derived.Test.YthdgbgleklkaiaaDoorQb02
import Derived.Test.YthdgbgleklkaiaaDoorQb03
import Derived.Test.YthdgbgleklkaiaaDoorQb04
import Derived.Test.YthdgbgleklkaiaaDoorQb05
import Derived.Test.YthdgbgleklkaiaaDoorQb36
open Go.Lib renaming hid→acD
open List renaming replicate→acE
open BitVec renaming ofInt→acF,ofInt_natCast→acH,toNat_ofNat→acI
open Nat renaming zero_le→acG,mod_eq_of_lt→acJ
open Int renaming natCast_add→acL
set_option linter.unusedSimpArgs false
set_option linter.unusedVariables false
set_option maxRecDepth 100000
set_option maxHeartbeats 16000000
namespace Go.Proofs.YthdgbgleklkaiaaDoor.Po
open Go.RowKit Lm
theorem UJ (w:World):(zeroValue 122).run Tryd.prog w = .ok (.agg (arr .u8 (acE 16 0))) w:=by kernel_rfl
theorem Qy (x m:Nat) (hx:x < 9223372036854775808) (hm:m < 9223372036854775808):bits .and .i64 (x:Int) (m:Int)=((x &&& m:Nat):Int):=by
 have h1:(acF 64 (x:Int)).toNat=x:=by rw [acH,acI];exact acJ (by omega)
 have h2:(acF 64 (m:Int)).toNat=m:=by rw [acH,acI];exact acJ (by omega)
 show IntKind.i64.wrap ((acF 64 (x:Int) &&& acF 64 (m:Int)).toNat:Int)=_
 have h3:x &&& m≤x:=Nat.and_le_left
 rw [BitVec.toNat_and,h1,h2,IntKind.wrap_i64]
 omega
theorem Rl (x:Nat):IntKind.u8.wrap ((x % 256:Nat):Int)=((x % 256:Nat):Int):=by rw [IntKind.wrap_u8];omega
theorem abM (m hr c rr:List Nat) (q f R V:Nat) (hf:f=16 * q) (hh:val 256 hr % (2 ^ 130 - 5)=acc R m q) (hc:val 256 c=val 256 ((m.drop f).take 16 ++ [1])) (hr':val 256 rr=R) (ha:val 256 (addr hr c 17)=val 256 hr+val 256 c) (hV:V % (2 ^ 130 - 5)=val 256 (addr hr c 17) * val 256 rr % (2 ^ 130 - 5)):V % (2 ^ 130 - 5)=acc R m (q+1):=by
 rw [hV,ha,hr',acc,← hf,← hc,← hh]
 generalize 2 ^ 130 - 5=P
 have e:(val 256 hr+val 256 c) % P=(val 256 hr % P+val 256 c) % P:=(Nat.mod_add_mod _ _ _).symm
 rw [Nat.mul_mod,e,← Nat.mul_mod]
theorem VZ (sa:Option Addr) (n cap:Nat) (ks m:List Nat) (w:World) (hs:Src w sa n (aW m)) (hmb:∀ x∈m,x < 256) (lk:ks.length=32) (bk:∀ x∈ks,x < 256) (hn:n≤1099511627776) :
  Calls Tryd.prog 92 #[.agg (arr .u8 (aW ks)), .slice sa n cap] w fun e w'=>e = .returned (.agg (arr .u8 (aW (Kh ks m))))∧Below w.heap.size w w':=by
 have hml:m.length=n:=by have:=hs.len;rwa [aJ] at this
 obtain ⟨zt,Cq⟩:∃ zs:List Nat,zs=acE 16 0:=⟨_,rfl⟩
 have hyt:∀ w,(zeroValue 122).run Tryd.prog w = .ok (.agg (arr .u8 (aW zt))) w:=by intro w;rw [Cq,jf];exact UJ w
 have IG:zt.length=16:=by rw [Cq];rfl
 obtain ⟨zs,hzs⟩:∃ zs:List Nat,zs=acE 17 0:=⟨_,rfl⟩
 have hz:∀ w,(zeroValue 147).run Tryd.prog w = .ok (.agg (arr .i64 (aW zs))) w:=by intro w;rw [hzs,jf];exact Ev w
 have hzl:zs.length=17:=by rw [hzs];rfl
 have hz0:zs=upto (fun t=>ks.getD t 0) 17 0:=by rw [Di,hzs]
 obtain ⟨kf,hkf⟩:∃ kf:Nat→Nat,kf=fun t=>ks.getD t 0:=⟨_,rfl⟩
 rw [← hkf] at hz0
 have hre:=r1_end ks
 rw [← hkf] at hre
 have hkfi:∀ i,ks.getD i 0=kf i:=fun i=>by rw [hkf]
 obtain ⟨e1,e2⟩:=r3_end ks lk bk
 obtain ⟨rr,hrr⟩:∃ x,x=eH 17 (r3 ks 16):=⟨_,rfl⟩
 obtain ⟨R,hR⟩:∃ x,x=rv ks:=⟨_,rfl⟩
 obtain ⟨r23,hr23⟩:∃ x,x=eH 17 (r2 ks 3):=⟨_,rfl⟩
 obtain ⟨r34,hr34⟩:∃ x,x=eH 17 (r3 ks 4):=⟨_,rfl⟩
 have hre2:=r2_end ks
 rw [← hrr,← hR] at e1
 rw [← hrr] at e2
 rw [← hr23] at hre
 rw [← hr34] at hre2
 have rrl:rr.length=17:=by rw [hrr,iQ]
 have S0:=B4.start w (arr .u8 (aW ks)) (arr .u8 (aW zt)) (arr .i64 (aW zs)) (arr .i64 (aW zs)) 23 122 147 147
 have bQ:=acD S0
 have HS:=acD hs
 have tH:=acD hml
 have HMB:=acD hmb
 have LK:=acD lk
 have BK:=acD bk
 have HYT:=acD hyt
 have HZT:=acD IG
 have HZTE:=acD Cq
 have HZ:=acD hz
 have uT:=acD hzl
 have HZE:=acD hzs
 have HZ0:=acD hz0
 have HKF:=acD hkfi
 have Cw:=acD hre
 have HRE2:=acD hre2
 have HR23:=acD hr23
 have HR34:=acD hr34
 have HRR:=acD hrr
 have HRV:=acD hR
 have HE1:=acD e1
 have HE2:=acD e2
 have RRL:=acD rrl
 clear S0 hs hml hmb lk bk hyt IG Cq hz hzl hzs hz0 hkf hkfi hre hre2 hr23 hr34 hrr hR e1 e2 rrl
 go_enter Tryd.func92, Tryd.ntmps92
 go_upto_block 0 with (first|((with_reducible refine aS 4 ?_);refine aj rfl 122 rfl _ (HYT.out _) ?_)|((with_reducible refine aS 5 ?_);refine aj rfl 147 rfl _ (HZ.out _) ?_)|((with_reducible refine aS 6 ?_);refine aj rfl 147 rfl _ (HZ.out _) ?_))
 go_cut [] (fun wx=>B4 w wx (arr .u8 (aW ks)) (arr .u8 (aW zt)) (arr .i64 (aW r23)) (arr .i64 (aW zs)) 23 122 147 147)
 case first =>
  go_wp2_with fail
  go_loopw [7] (fun v wr=>∃ i:Nat,i≤16∧v = .int .i64 i∧B4 w wr (arr .u8 (aW ks)) (arr .u8 (aW zt)) (arr .i64 (aW (upto kf 17 i))) (arr .i64 (aW zs)) 23 122 147 147) (fun v _=>16 - (intOf v).toNat)
  case atStart=>exact ⟨0,acG _,rfl,by rw [← HZ0.out];exact bQ.out⟩
  clear bQ
  case round =>
  obtain ⟨i,hi,rfl,hB⟩:=hrel
  by_cases hlt:i < 16
  ·have q0:=dh hB.b0 i (by rw [aJ,LK.out];omega)
   have q2:=dh hB.b2 i (by rw [aJ,zi];omega)
   have q3:=aC hB.b2 i
   rw [bG,HKF.out] at q0
   have hb1:=hB.set2 i (.int .i64 ((kf i:Nat):Int))
   rw [bf,← dw,Hf] at hb1
   have hx:kf i < 256:=by rw [← HKF.out];exact dx BK.out (by decide) i
   have HB1:=acD hb1
   generalize kf i=x at q0 HB1 hx
   clear hB hb1
   go_wp2_with fail
   go_roundw
   case rel=>exact ⟨i+1,by omega,by go_num,HB1.out⟩
   case measure=>simp [intOf];omega
  ·have ei:i=16:=by omega
   rw [ei,Cw.out] at hB
   have HB:=acD hB
   clear hB ei
   go_wp2_with fail
   go_meet
   exact HB.out
 case rest =>
 clear bQ HKF HZ0 Cw
 obtain ⟨wa,rfl⟩:∃ x:World,x=wc:=⟨_,rfl⟩
 have HBA:=acD hcut
 clear hcut
 go_upto_block 2 with fail
 go_cut [] (fun wx=>B4 w wx (arr .u8 (aW ks)) (arr .u8 (aW zt)) (arr .i64 (aW r34)) (arr .i64 (aW zs)) 23 122 147 147)
 case first =>
  go_wp2_with fail
  go_loopw [8] (fun v wr=>∃ j:Nat,j≤19∧j % 4=3∧v = .int .i64 j∧B4 w wr (arr .u8 (aW ks)) (arr .u8 (aW zt)) (arr .i64 (aW (eH 17 (r2 ks j)))) (arr .i64 (aW zs)) 23 122 147 147) (fun v _=>19 - (intOf v).toNat)
  case atStart=>exact ⟨3,by omega,rfl,rfl,by rw [← HR23.out];exact HBA.out⟩
  case round =>
  obtain ⟨j,hj,hj4,rfl,hB⟩:=hrel
  by_cases hlt:j < 16
  ·have q2:=dh hB.b2 j (by rw [aJ,iQ];omega)
   have q3:=aC hB.b2 j
   rw [bG,r2_get ks j hlt] at q2
   have hx:=dx BK.out (by decide) j
   have hb1:=hB.set2 j (.int .i64 ((ks.getD j 0 &&& 15:Nat):Int))
   rw [bf,← dw,r2_set ks j hj4] at hb1
   generalize ks.getD j 0=x at q2 hx hb1
   have hand:=Qy x 15 (by omega) (by decide)
   rw [← hand] at hb1
   have HB1:=acD hb1
   have HJ4:=acD hj4
   clear hB hb1 hand hj4
   go_wp2_with fail
   go_roundw
   case rel=>exact ⟨j+4,by omega,by have:=HJ4.out;omega,by go_num,HB1.out⟩
   case measure=>simp [intOf];omega
  ·have ej:j=19:=by omega
   rw [ej,HRE2.out] at hB
   have HB:=acD hB
   clear hB ej
   go_wp2_with fail
   go_meet
   exact HB.out
 case rest =>
 clear HBA HRE2 HR23
 obtain ⟨wb,rfl⟩:∃ x:World,x=wc:=⟨_,rfl⟩
 have oZ:=acD hcut
 clear hcut
 go_upto_block 4 with fail
 go_cut [] (fun wx=>B4 w wx (arr .u8 (aW ks)) (arr .u8 (aW zt)) (arr .i64 (aW rr)) (arr .i64 (aW zs)) 23 122 147 147)
 case first =>
  go_wp2_with fail
  go_loopw [9] (fun v wr=>∃ j:Nat,4≤j∧j≤16∧j % 4=0∧v = .int .i64 j∧B4 w wr (arr .u8 (aW ks)) (arr .u8 (aW zt)) (arr .i64 (aW (eH 17 (r3 ks j)))) (arr .i64 (aW zs)) 23 122 147 147) (fun v _=>16 - (intOf v).toNat)
  case atStart=>exact ⟨4,by omega,by omega,rfl,rfl,by rw [← HR34.out];exact oZ.out⟩
  case round =>
  obtain ⟨j,h4,hj,hj4,rfl,hB⟩:=hrel
  by_cases hlt:j < 16
  ·have q2:=dh hB.b2 j (by rw [aJ,iQ];omega)
   have q3:=aC hB.b2 j
   rw [bG,r3_get ks j hlt hj4] at q2
   have hx:=dx BK.out (by decide) j
   have hb1:=hB.set2 j (.int .i64 ((ks.getD j 0 &&& 252:Nat):Int))
   rw [bf,← dw,r3_set ks j hj4 h4] at hb1
   generalize ks.getD j 0=x at q2 hx hb1
   have hand:=Qy x 252 (by omega) (by decide)
   rw [← hand] at hb1
   have HB1:=acD hb1
   have HJ4:=acD hj4
   clear hB hb1 hand hj4
   go_wp2_with fail
   go_roundw
   case rel=>exact ⟨j+4,by omega,by have:=HJ4.out;omega,by have:=HJ4.out;omega,by go_num,HB1.out⟩
   case measure=>simp [intOf];omega
  ·have ej:j=16:=by omega
   rw [ej,← HRR.out] at hB
   have HB:=acD hB
   clear hB ej
   go_wp2_with fail
   go_meet
   exact HB.out
 case rest =>
 clear oZ HR34 HRR
 obtain ⟨wc1,rfl⟩:∃ x:World,x=wc:=⟨_,rfl⟩
 have Q0:=acD hcut
 clear hcut
 go_upto_block 6 with fail
 go_cut [] (fun wx=>∃ hr:List Nat,hr.length=17∧(∀ x∈hr,x < 266)∧val 256 hr < 2 ^ 131∧val 256 hr % (2 ^ 130 - 5)=acc R m ((m.length+15) / 16)∧B4 w wx (arr .u8 (aW ks)) (arr .u8 (aW zt)) (arr .i64 (aW rr)) (arr .i64 (aW hr)) 23 122 147 147)
 case first =>
  go_wp2_with fail
  go_loopw [10] (fun v wr=>∃ (q f:Nat) (hr:List Nat),f=16 * q∧f < n+16∧v = .int .i64 f∧hr.length=17∧(∀ x∈hr,x < 266)∧val 256 hr < 2 ^ 131∧val 256 hr % (2 ^ 130 - 5)=acc R m q∧B4 w wr (arr .u8 (aW ks)) (arr .u8 (aW zt)) (arr .i64 (aW rr)) (arr .i64 (aW hr)) 23 122 147 147) (fun v _=>n+16 - (intOf v).toNat)
  case atStart=>exact ⟨0,0,zs,rfl,by omega,rfl,uT.out,by rw [HZE.out];simp,by rw [HZE.out,mJ];decide,by rw [HZE.out,mJ];rfl,Q0.out⟩
  case round =>
  obtain ⟨q,f,hr,hf,hfn,rfl,hl,Fy,Qf,hacc,hB⟩:=hrel
  by_cases hlt:f < n
  ·obtain ⟨k,hk⟩:∃ k,k=min 16 (m.length - f):=⟨_,rfl⟩
   have hk1:k≤16:=by omega
   have hk2:f+k≤m.length:=by have:=tH.out;omega
   have hk3:f+k≤n:=by rw [← tH.out];exact hk2
   have hkn:k=16∧16≤n - f∨k=n - f∧n - f < 16:=by have:=tH.out;omega
   have HF:=acD hf
   have HL:=acD hl
   have H266:=acD Fy
   have H131:=acD Qf
   have HACC:=acD hacc
   have HBK:=acD hk
   have yU:=acD hk2
   have HB:=acD hB
   have HKN:=acD hkn
   have hsz:=aO hB.b3
   clear hf hl Fy Qf hacc hk hk2 hB hkn
   have j1:IntKind.i64.wrap ((n:Int) - (f:Int))=(n:Int) - (f:Int):=IntWalk.i64_in _ (by omega)
   go_upto_if 59 with (first|((with_reducible refine aS 11 ?_);refine aj rfl 147 rfl _ (HZ.out _) ?_))
   have HBa:=acD (HB.out.alloc (.cells (arr .i64 (aW zs)) 147))
   have HCa:=acD (aG wr (.cells (arr .i64 (aW zs)) 147))
   obtain ⟨gc,hgc⟩:∃ g,g=wr.heap.size:=⟨_,rfl⟩
   rw [← hgc] at HCa hsz ⊢
   generalize wr.alloc (.cells (arr .i64 (aW zs)) 147)=wA at HBa HCa ⊢
   clear hgc HB
   go_cut [12] (fun u12 wx=>u12 = .int .i64 (k:Int)∧wx=wA)
   case first =>
    rcases HKN.out with ⟨h1,h2⟩|⟨h1,h2⟩
    ·by_cases h3:n - f=16
     ·have e3:(n:Int) - (f:Int)=16:=by omega
      have ek:(k:Int)=16:=by omega
      clear h1 h2 h3
      go_wp2_with fail
      go_meet
      exact ⟨by rw [ek,e3],rfl⟩
     ·have e3:(16:Int) < (n:Int) - (f:Int):=by omega
      have ek:(k:Int)=16:=by omega
      clear h1 h2 h3
      go_wp2_with fail
      go_meet
      exact ⟨by rw [ek],rfl⟩
    ·have e3:(n:Int) - (f:Int) < 16:=by omega
     have ek:(k:Int)=(n:Int) - (f:Int):=by omega
     clear h1 h2
     go_wp2_with fail
     go_meet
     exact ⟨by rw [ek],rfl⟩
   case rest =>
   obtain ⟨rfl,hwc⟩:=hcut
   obtain ⟨wB,hwB⟩:∃ x:World,x=wc:=⟨_,rfl⟩
   rw [← hwB] at hwc ⊢
   clear hwB
   subst hwc
   obtain ⟨er,her⟩:∃ er:Nat→List Nat,er=fun i=>(m.drop f).take i ++ acE (17 - i) 0:=⟨_,rfl⟩
   obtain ⟨cr,hcr⟩:∃ cr,cr=(m.drop f).take k ++ 1 :: acE (16 - k) 0:=⟨_,rfl⟩
   have er0:zs=er 0:=by rw [her,HZE.out];simp
   have ers:∀ i,f+i < m.length→i < 17→(er i).set i (m.getD (f+i) 0)=er (i+1):=by rw [her];exact fun i h1 h2=>e_step m f i h1 h2
   have erl:∀ i,f+i≤m.length→i≤17→(er i).length=17:=by
    rw [her];intro i h1 h2
    show ((m.drop f).take i ++ acE (17 - i) 0).length=17
    rw [List.length_append,vP _ _ _ h1,List.length_replicate];omega
   have ere:(er k).set k 1=cr:=by rw [her,hcr];exact e_one m f k yU.out hk1
   have crl:cr.length=17:=by rw [hcr];exact e_len m f k yU.out hk1
   have crb:∀ x∈cr,x < 256:=by rw [hcr];exact e_lt m f k HMB.out
   have crv:val 256 cr=val 256 ((m.drop f).take 16 ++ [1]):=by rw [hcr];exact e_val m f k HBK.out
   rw [er0] at HCa
   obtain ⟨af,haf⟩:∃ af,af=addr hr cr:=⟨_,rfl⟩
   have af0:hr=af 0:=by rw [haf,T9 hr cr HL.out]
   have afl:∀ i,(af i).length=17:=by rw [haf];exact abW hr cr
   have afg:∀ i,i < 17→(af i).getD i 0=hr.getD i 0:=by rw [haf];exact abX hr cr
   have afs:∀ i,(af i).set i (hr.getD i 0+cr.getD i 0)=af (i+1):=by rw [haf];exact abV hr cr
   obtain ⟨a17,ZF⟩:∃ x,x=af 17:=⟨_,rfl⟩
   have afb:∀ x∈a17,x < 2 ^ 20:=by rw [ZF,haf];exact addr_lt hr cr H266.out crb
   have a17l:a17.length=17:=by rw [ZF];exact afl 17
   have hT:=fun w=>Rs a17 rr w a17l RRL.out afb HE2.out
   have hstep:∀ v,fold v % (2 ^ 130 - 5)=val 256 a17 * val 256 rr % (2 ^ 130 - 5)→fold v % (2 ^ 130 - 5)=acc R m (q+1):=by
    intro v hv
    rw [ZF,haf] at hv
    exact abM m hr cr rr q f R _ HF.out HACC.out crv HE1.out (abY hr cr HL.out crl) hv
   have ER:=acD ers
   have ERL:=acD erl
   have ERE:=acD ere
   have CRL:=acD crl
   have CRB:=acD crb
   have AF0:=acD af0
   have AFL:=acD afl
   have AFG:=acD afg
   have AFS:=acD afs
   have A17:=acD ZF
   have A17L:=acD a17l
   have HT:=acD hT
   have HSTEP:=acD hstep
   clear her hcr er0 ers erl ere crl crb crv haf af0 afl afg afs ZF afb a17l hT hstep
   go_wp2_with fail
   go_loopw [13] (fun v wr=>∃ i:Nat,i≤k∧v = .int .i64 i∧wr.heap[gc]? = some (.cells (arr .i64 (aW (er i))) 147 (0,0))∧B4 w wr (arr .u8 (aW ks)) (arr .u8 (aW zt)) (arr .i64 (aW rr)) (arr .i64 (aW hr)) 23 122 147 147) (fun v _=>k - (intOf v).toNat)
   case atStart=>exact ⟨0,acG _,rfl,HCa.out,HBa.out⟩
   case round =>
   obtain ⟨i,hi,rfl,hC,hB⟩:=hrel
   by_cases hlti:i < k
   ·obtain ⟨ad,rfl,hcc⟩:=HS.out.cell (f+i) (by omega)
    have x2:=dI hB.below hcc
    rw [bG] at x2
    have hxb:=dx HMB.out (by decide) (f+i)
    have hst:=ER.out i (by have:=yU.out;omega) (by omega)
    generalize m.getD (f+i) 0=x at x2 hxb hst
    have q3:=aC hC i
    have q2:=dh hC i (by rw [aJ,ERL.out i (by have:=yU.out;omega) (by omega)];omega)
    have hc1:(wr.setCell ⟨gc,i,none⟩ (.int .i64 (x:Int))).heap[gc]? = some (.cells (arr .i64 (aW (er (i+1)))) 147 (0,0)):=by
     rw [bq hC,bf,← dw,hst]
    have yX:=acD hc1
    have HB1:=acD (hB.far gc i (.int .i64 (x:Int)) hsz)
    have j2:IntKind.i64.wrap ((f:Int)+(i:Int))=(f:Int)+(i:Int):=IntWalk.i64_in _ (by omega)
    have hi17:(i:Int) < 17:=by omega
    have n2:((f:Int)+(i:Int)).toNat=f+i:=by omega
    have n3:(f:Int)+(i:Int) < (n:Int):=by omega
    clear hC hB hc1 hst hcc
    go_wp2_with fail
    go_roundw
    case rel=>exact ⟨i+1,by omega,by go_num,yX.out,HB1.out⟩
    case measure=>simp [intOf];omega
   ·have ei:i=k:=by omega
    rw [ei] at hC
    have q3:=aC hC k
    have q2:=dh hC k (by rw [aJ,ERL.out k (by have:=yU.out;omega) (by omega)];omega)
    have hc1:(wr.setCell ⟨gc,k,none⟩ (.int .i64 1)).heap[gc]? = some (.cells (arr .i64 (aW cr)) 147 (0,0)):=by
     rw [bq hC,show (1:Int)=((1:Nat):Int) from rfl,bf,← dw,ERE.out]
    have yX:=acD hc1
    have HB1:=acD (hB.far gc k (.int .i64 1) hsz)
    have hk17:(k:Int) < 17:=by omega
    clear hC hB hc1 ei
    go_wp2_with fail
    generalize Value.bool (decide ((i:Int) < k))=u62'
    clear HCa HBa q2 q3
    go_loopw [14] (fun v wr=>∃ t:Nat,t≤17∧v = .int .i64 t∧wr.heap[gc]? = some (.cells (arr .i64 (aW cr)) 147 (0,0))∧B4 w wr (arr .u8 (aW ks)) (arr .u8 (aW zt)) (arr .i64 (aW rr)) (arr .i64 (aW (af t))) 23 122 147 147) (fun v _=>17 - (intOf v).toNat)
    case atStart=>exact ⟨0,acG _,rfl,yX.out,by rw [← AF0.out];exact HB1.out⟩
    clear yX HB1
    case round =>
    obtain ⟨t,ht,rfl,hC,hB⟩:=hrel
    by_cases hltt:t < 17
    ·have q0:=dh hB.b3 t (by rw [aJ,AFL.out];omega)
     have q1:=dh hC t (by rw [aJ,CRL.out];omega)
     have q3:=aC hB.b3 t
     rw [bG,AFG.out t hltt] at q0
     rw [bG] at q1
     have hx:=dx H266.out (by decide) t
     have hy:=dx CRB.out (by decide) t
     have hst:=AFS.out t
     generalize hr.getD t 0=x at q0 hx hst
     generalize cr.getD t 0=y at q1 hy hst
     have hb1:=hB.set3 t (.int .i64 ((x:Int)+(y:Int)))
     rw [show (x:Int)+(y:Int)=((x+y:Nat):Int) by omega,bf,← dw,hst,show ((x+y:Nat):Int)=(x:Int)+(y:Int) by omega] at hb1
     have HB1:=acD hb1
     have hc1:(wr.setCell ⟨w.heap.size+1+1+1,t,none⟩ (.int .i64 ((x:Int)+(y:Int)))).heap[gc]? = some (.cells (arr .i64 (aW cr)) 147 (0,0)):=aB hC _ (by omega)
     have yX:=acD hc1
     clear hC hB hb1 hc1 hst
     go_wp2_with fail
     go_region
     clear q0 q1 q3
     go_wp2_with fail
     go_roundw
     case rel=>exact ⟨t+1,by omega,by go_num,yX.out,HB1.out.drew⟩
     case measure=>simp [intOf];omega
    ·have et:t=17:=by omega
     rw [et,← A17.out] at hB
     have HB1:=acD hB
     clear hB hC et
     go_wp2_with (first|((with_reducible refine aS 89 ?_);refine ak rfl 147 _ rfl (w.heap.size+1+1+1) 0 _ 147 (0,0) _ HB1.out.b3 rfl .i64 (aW a17) (au _ _) Tryd.underlying147 rfl (nS a17 A17L.out) ?_)|((with_reducible refine aS 90 ?_);refine ak rfl 147 _ rfl (w.heap.size+1+1) 0 _ 147 (0,0) _ HB1.out.b2 rfl .i64 (aW rr) (au _ _) Tryd.underlying147 rfl (nS rr RRL.out) ?_)|((with_reducible show Calls _ _ _ _ _);go_at_call 99; refine (HT.out _).mono ?_;rintro e w5 ⟨⟨v,rfl,hv1,hv2⟩,hbw⟩;have fM:=acD (HB1.out.after hbw);have HV1:=acD hv1;have HV2:=acD hv2;obtain ⟨pv,hpv⟩:∃ x,x=pk v:=⟨_,rfl⟩;have PVL:Hid (pv.length=17):=acD (by rw [hpv,Kz]);rw [← hpv];have HPV:=acD hpv;clear hbw hv1 hv2 hpv)|((with_reducible show wpList _ _ _ (Oper.mk none _ _ _ _ _ :: _) _ _);refine ah rfl 147 _ _ rfl (w.heap.size+1+1+1) _ _ 147 fM.out.b3 rfl rfl ((kH pv PVL.out).trans (kH a17 A17L.out).symm) (kr pv PVL.out) (av _ _) ?_;intro w7 dR iw kS;have eG:=acD (fM.out.put3 iw dR);clear dR iw kS))
     (try simp only [Act.put])
     go_roundw
     case rel=>exact ⟨q+1,f+16,pv,by have:=HF.out;omega,by omega,by go_num,PVL.out,by rw [HPV.out];exact V9 v HV1.out,by rw [HPV.out,zf];have:=(Ay v HV1.out).1;omega,by rw [HPV.out,zf];exact HSTEP.out v HV2.out,eG.out⟩
     case measure=>simp [intOf];omega
  ·have eq:q=(m.length+15) / 16:=by rw [tH.out];omega
   rw [eq] at hacc
   have HL:=acD hl
   have H266:=acD Fy
   have H131:=acD Qf
   have HACC:=acD hacc
   have HB:=acD hB
   clear hl Fy Qf hacc hB hf eq
   go_wp2_with fail
   go_meet
   exact ⟨hr,HL.out,H266.out,H131.out,HACC.out,HB.out⟩
 case rest =>
 obtain ⟨wd,rfl⟩:∃ x:World,x=wc:=⟨_,rfl⟩
 obtain ⟨hr,hl,h266,h131,hacc,hB⟩:=hcut
 have hW:=fun w=>Rm hr w hl (fun x hx=>by have:=h266 x hx;omega) h131
 rw [hacc] at hW
 obtain ⟨a,ha⟩:∃ x,x=acc R m ((m.length+15) / 16):=⟨_,rfl⟩
 obtain ⟨kh,hkh⟩:∃ x,x=ks.drop 16:=⟨_,rfl⟩
 obtain ⟨tg,Qh⟩:∃ x,x=Kh ks m:=⟨_,rfl⟩
 have khl:kh.length=16:=by rw [hkh,List.length_drop,LK.out]
 have khb:∀ x∈kh,x < 256:=by rw [hkh];exact fun x hx=>BK.out x (List.mem_of_mem_drop hx)
 have khg:∀ i,ks.getD (16+i) 0=kh.getD i 0:=by intro i;rw [hkh];simp [List.getD]
 have hend:zZ (bD 256 17 a) kh 16=tg:=by rw [WH a kh khl,Qh,Kh,← HRV.out,← ha,hkh]
 rw [← ha] at hW
 obtain ⟨hw,hhw⟩:∃ x,x=bD 256 17 a:=⟨_,rfl⟩
 rw [← hhw] at hend hW
 have hwl:hw.length=17:=by rw [hhw,aK]
 have hwb:∀ x∈hw,x < 256:=by rw [hhw];exact ig 256 (by decide) _ _
 obtain ⟨mf,hmf⟩:∃ mf:Nat→List Nat,mf=zZ hw kh:=⟨_,rfl⟩
 have mfl:∀ i,i≤16→(mf i).length=16:=by rw [hmf];exact WG hw kh
 have mfs:∀ i u,i < 16→u=(val 256 (hw.take i)+val 256 (kh.take i)) / 256 ^ i→(mf i).set i ((u+hw.getD i 0+kh.getD i 0) % 256)=mf (i+1)∧(u+hw.getD i 0+kh.getD i 0) / 256=(val 256 (hw.take (i+1))+val 256 (kh.take (i+1))) / 256 ^ (i+1):=by
  rw [hmf];exact fun i u h1 h2=>Sr hw kh i u h1 (by omega) (by omega) h2
 have mf0:zt=mf 0:=by rw [hmf,HZTE.out];simp [zZ,bD]
 have mfe:mf 16=tg:=by rw [hmf];exact hend
 have mfc:∀ i,i≤16→(val 256 (hw.take i)+val 256 (kh.take i)) / 256 ^ i≤2:=fun i hi=>KM hw kh i hwb khb (by omega) (by omega)
 obtain ⟨cf,hcf⟩:∃ cf:Nat→Nat,cf=fun i=>(val 256 (hw.take i)+val 256 (kh.take i)) / 256 ^ i:=⟨_,rfl⟩
 have cf0:0=cf 0:=by rw [hcf];simp [val]
 have mfs':∀ i u,i < 16→u=cf i→(mf i).set i ((u+hw.getD i 0+kh.getD i 0) % 256)=mf (i+1)∧(u+hw.getD i 0+kh.getD i 0) / 256=cf (i+1):=by rw [hcf];exact mfs
 have mfc':∀ i,i≤16→cf i≤2:=by rw [hcf];exact mfc
 have tgl:tg.length=16:=by rw [Qh,Kh,aK]
 have HL:=acD hl
 have HB:=acD hB
 have HW:=acD hW
 have KHB:=acD khb
 have KHG:=acD khg
 have rE:=acD hwl
 have HWB:=acD hwb
 have MFL:=acD mfl
 have MFS:=acD mfs'
 have MF0:=acD mf0
 have MFE:=acD mfe
 have MFC:=acD mfc'
 have CF0:=acD cf0
 have Uw:=acD tgl
 have HTG:=acD Qh
 clear hl hB hW khb khg hwl hwb mfl mfs mfs' mf0 mfe mfc mfc' cf0 tgl Qh h266 h131 hacc ha hkh khl hend hhw hmf hcf
 go_upto_block 12 with (first|((with_reducible refine aS 92 ?_);refine ak rfl 147 _ rfl (w.heap.size+1+1+1) 0 _ 147 (0,0) _ HB.out.b3 rfl .i64 (aW hr) (au _ _) Tryd.underlying147 rfl (nS hr HL.out) ?_)|((with_reducible show Calls _ _ _ _ _);go_at_call 100; refine (HW.out _).mono ?_;rintro e w5 ⟨rfl,hbw⟩;have fM:=acD (HB.out.after hbw);clear hbw)|((with_reducible show wpList _ _ _ (Oper.mk none _ _ _ _ _ :: _) _ _);refine ah rfl 147 _ _ rfl (w.heap.size+1+1+1) _ _ 147 fM.out.b3 rfl rfl ((kH hw rE.out).trans (kH hr HL.out).symm) (kr hw rE.out) (av _ _) ?_;intro w7 dR iw kS;have eG:=acD (fM.out.put3 iw dR);have hl7:=aO eG.out.b3;clear dR iw kS)|((with_reducible refine aS 15 ?_);refine aj rfl 122 rfl _ (HYT.out _) ?_;go_simp))
 have fC:=acD (eG.out.alloc (.cells (arr .u8 (aW zt)) 122))
 have QY:=acD (aG w7 (.cells (arr .u8 (aW zt)) 122))
 obtain ⟨gt,hgt⟩:∃ g,g=w7.heap.size:=⟨_,rfl⟩
 rw [← hgt] at QY hl7 ⊢
 generalize w7.alloc (.cells (arr .u8 (aW zt)) 122)=w8 at fC QY ⊢
 clear hgt HB eG
 go_wp2_with fail
 go_loopw [16,17] (fun uv iv wr=>∃ i u:Nat,i≤16∧iv = .int .i64 i∧uv = .int .i64 u∧u=cf i∧wr.heap[gt]? = some (.cells (arr .u8 (aW (mf i))) 122 (0,0))∧B4 w wr (arr .u8 (aW ks)) (arr .u8 (aW zt)) (arr .i64 (aW rr)) (arr .i64 (aW hw)) 23 122 147 147) (fun _ iv _=>16 - (intOf iv).toNat)
 case atStart=>exact ⟨0,0,acG _,rfl,rfl,CF0.out,by rw [← MF0.out];exact QY.out,fC.out⟩
 clear QY fC
 case round =>
 obtain ⟨i,u,hi,rfl,rfl,hu,hG,hB⟩:=hrel
 by_cases hlt:i < 16
 ·have q0:=dh hB.b3 i (by rw [aJ,rE.out];omega)
  have q1:=dh hB.b0 (16+i) (by rw [aJ,LK.out];omega)
  have q3:=aC hG i
  have q4:=dh hG i (by rw [aJ,MFL.out i hi];omega)
  rw [bG] at q0
  rw [bG,KHG.out] at q1
  have hx:=dx HWB.out (by decide) i
  have hy:=dx KHB.out (by decide) i
  have hu2:u≤2:=by rw [hu];exact MFC.out i hi
  obtain ⟨m1,m2⟩:=MFS.out i u hlt hu
  generalize hw.getD i 0=x at q0 hx m1 m2
  generalize kh.getD i 0=y at q1 hy m1 m2
  have hand:=sG (u+x+y) (by omega)
  rw [acL,acL] at hand
  have hg1:(wr.setCell ⟨gt,i,none⟩ (.int .u8 (((u+x+y) % 256:Nat):Int))).heap[gt]? = some (.cells (arr .u8 (aW (mf (i+1)))) 122 (0,0)):=by
   rw [bq hG,bf,← dw,m1]
  have hwb2:IntKind.u8.wrap (bits .and .i64 ((u:Int)+(x:Int)+(y:Int)) 255)=(((u+x+y) % 256:Nat):Int):=by rw [hand,Rl]
  rw [← hwb2] at hg1
  have hb1:=hB.far gt i (.int .u8 (IntKind.u8.wrap (bits .and .i64 ((u:Int)+(x:Int)+(y:Int)) 255))) hl7
  have qH:=acD hg1
  have HB1:=acD hb1
  have M2:=acD m2
  have j2:IntKind.i64.wrap (16+(i:Int))=16+(i:Int):=IntWalk.i64_in _ (by omega)
  have n2:(16+(i:Int)).toNat=16+i:=by omega
  have n3:16+(i:Int) < 32:=by omega
  clear hG hB hg1 hb1 m1 m2 hand hwb2 hu
  go_wp2_with fail
  go_region
  clear q0 q1 j2 n2 n3
  go_wp2_with fail
  go_roundw
  case rel=>exact ⟨i+1,(u+x+y) / 256,by omega,by go_num,rfl,M2.out,qH.out,HB1.out.drew⟩
  case measure=>simp [intOf];omega
 ·have ei:i=16:=by omega
  rw [ei,MFE.out] at hG
  have HB:=acD hB
  have HG:=acD hG
  clear hB hG hu ei
  go_wp2_with (first|((with_reducible refine aS 116 ?_);refine ak rfl 122 _ rfl gt 0 _ 122 (0,0) _ HG.out rfl .u8 (aW tg) (au _ _) Tryd.underlying122 rfl (by rw [aJ,Uw.out];kernel_rfl) ?_)|((with_reducible show wpList _ _ _ (Oper.mk none _ _ _ _ _ :: _) _ _);refine ah rfl 122 _ _ rfl (w.heap.size+1) _ _ 122 HB.out.b1 rfl rfl (by rw [aD,aD,aJ,aJ,Uw.out,HZT.out]) (by rw [aD,aJ,Uw.out];kernel_rfl) (av _ _) ?_;intro w9 dF nY KZ;have kW:=acD (HB.out.Kv nY dF);clear dF nY KZ))
  (try simp only [Exit.inBlock,Exit.then])
  refine bodyPost_ret (results_cell_row rfl _ _ (w.heap.size+1) 122 _ (0,0) _ rfl kW.out.b1 Tryd.underlying122 rfl (by rw [aD,aJ,Uw.out];kernel_rfl)) rfl ?_
  exact ⟨by rw [HTG.out],kW.out.below⟩
end Go.Proofs.YthdgbgleklkaiaaDoor.Po
