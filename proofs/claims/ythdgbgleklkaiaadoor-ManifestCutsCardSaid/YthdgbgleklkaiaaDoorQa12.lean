/- The document's mul: The document's out. Condition: as each theorem says. -/

import Derived.Test.YthdgbgleklkaiaaDoorQa11
set_option linter.unusedSimpArgs false
set_option linter.unusedVariables false
set_option maxRecDepth 100000
set_option maxHeartbeats 16000000
namespace Go.Proofs.YthdgbgleklkaiaaDoor.Rd
open Go.RowKit Lm Fp
theorem zero_31 (w:World):(zeroValue 136).run Tryd.prog w = .ok (.agg (arr .i64 (List.replicate 31 0))) w:=by kernel_rfl
def mf (ts:List Int) (i:Nat):List Int:=tb 16 fun j=>if j < i then (if j < 15 then ts.getD j 0+38 * ts.getD (j+16) 0 else ts.getD j 0) else 0
theorem mf_zero (ts:List Int):List.replicate 16 0=mf ts 0:=by
 rw [sO]
 exact bX _ _ _ fun j _=>by rw [if_neg (by omega)]
theorem mf_all (ts:List Int):mf ts 16=foldr ts:=bX _ _ _ fun _ hj=>if_pos hj
theorem OJ (ts:List Int) (i:Nat) (v:Int) (h:(if i < 15 then ts.getD i 0+38 * ts.getD (i+16) 0 else ts.getD i 0)=v):(mf ts i).set i v=mf ts (i+1):=by
 subst h
 rw [mf,iI]
 refine bX _ _ _ fun j _=>?_
 by_cases e:j=i
 ·subst e;rw [if_pos rfl,if_pos (show j < j+1 by omega)]
 ·rw [if_neg e]
  by_cases e3:j < i
  ·rw [if_pos e3,if_pos (show j < i+1 by omega)]
  ·rw [if_neg e3,if_neg (show ¬ j < i+1 by omega)]
theorem bJ (xs ys:List Int) (a b:Nat) (w:World) (hx:El xs a) (hy:El ys b) :
  Calls Tryd.prog 68 #[.agg (arr .i64 xs), .agg (arr .i64 ys)] w fun e w'=>∃ zs,e = .returned (.agg (arr .i64 zs))∧El zs (aA a b)∧Below w.heap.size w w':=by
 obtain ⟨ze,iH⟩:∃ zs:List Int,zs=List.replicate 16 0:=⟨_,rfl⟩
 have dM:Hid (∀ w,(zeroValue 98).run Tryd.prog w = .ok (.agg (arr .i64 ze)) w):=Lib.hid (by intro w;rw [iH];exact gF w)
 have dB:Hid (ze.length=16):=Lib.hid (by rw [iH];rfl)
 obtain ⟨zt,Bn⟩:∃ zs:List Int,zs=List.replicate 31 0:=⟨_,rfl⟩
 have HZt:Hid (∀ w,(zeroValue 136).run Tryd.prog w = .ok (.agg (arr .i64 zt)) w):=Lib.hid (by intro w;rw [Bn];exact zero_31 w)
 have HLt:Hid (zt.length=31):=Lib.hid (by rw [Bn];rfl)
 have HVt:Hid (vi zt=0):=Lib.hid (by rw [Bn];decide)
 have HGt:Hid (∀ n,zt.getD n 0=0):=Lib.hid (by intro n;rw [Bn,List.getD,List.getElem?_replicate];split <;> rfl)
 have HZ0:Hid (∀ ts,ze=mf ts 0):=Lib.hid (fun ts=>by rw [iH];exact mf_zero ts)
 have HX:=Lib.hid hx
 have HY:=Lib.hid hy
 have HXB:=Lib.hid (bT xs 1048576 hx.2.1 (by decide))
 have HYB:=Lib.hid (bT ys 1048576 hy.2.1 (by decide))
 have HYV:Hid (si 16 (fun j=>65536 ^ j * ys.getD j 0)=vi ys):=Lib.hid (lQ 16 ys hy.1).symm
 have HXV:Hid (si 16 (fun j=>65536 ^ j * xs.getD j 0)=vi xs):=Lib.hid (lQ 16 xs hx.1).symm
 have bN:=Lib.hid (bM.four w (arr .i64 xs) (arr .i64 ys) (arr .i64 ze) (arr .i64 zt) 98 98 98 136)
 clear iH Bn hx hy
 go_enter Tryd.func68, Tryd.ntmps68
 go_wp2_with (first|((with_reducible refine aS 4 ?_);refine aj rfl 98 rfl _ (dM.out _) ?_)|((with_reducible refine aS 5 ?_);refine aj rfl 136 rfl _ (HZt.out _) ?_))
 go_loopw [6] (fun v wr=>∃ i:Nat,i≤16∧v = .int .i64 i∧∃ ts:List Int,ts.length=31∧(∀ n, -(1099511627776 * (i:Int))≤ts.getD n 0∧ts.getD n 0≤1099511627776 * (i:Int))∧vi ts=si i (fun j=>65536 ^ j * xs.getD j 0) * vi ys∧bM w wr [(w.heap.size,arr .i64 xs, 98),(w.heap.size+1,arr .i64 ys, 98),(w.heap.size+1+1,arr .i64 ze, 98),(w.heap.size+1+1+1,arr .i64 ts, 136)]) (fun v _=>16 - (intOf v).toNat)
 case atStart=>exact ⟨0,Nat.zero_le _,rfl,zt,HLt.out,(by intro n;rw [HGt.out n];omega),(by rw [HVt.out,si,Int.zero_mul]),bN.out⟩
 clear bN
 case round =>
 obtain ⟨i,hi,rfl,ts,tl,SE,tv,hB⟩:=hrel
 by_cases hlt:i < 16
 ·have HB:=Lib.hid hB
  have uE:=Lib.hid tl
  have HTB:=Lib.hid SE
  have HTV:=Lib.hid tv
  clear hB tl SE tv
  go_wp2_with fail
  generalize Value.bool (decide ((i:Int) < 16))=u11'
  go_loopw [7] (fun v wr=>∃ k:Nat,k≤16∧v = .int .i64 k∧∃ us:List Int,us.length=31∧(∀ n, -(1099511627776 * ((i:Int)+if i≤n∧n < i+k then 1 else 0))≤us.getD n 0∧us.getD n 0≤1099511627776 * ((i:Int)+if i≤n∧n < i+k then 1 else 0))∧vi us=si i (fun j=>65536 ^ j * xs.getD j 0) * vi ys+65536 ^ i * xs.getD i 0 * si k (fun j=>65536 ^ j * ys.getD j 0)∧bM w wr [(w.heap.size,arr .i64 xs, 98),(w.heap.size+1,arr .i64 ys, 98),(w.heap.size+1+1,arr .i64 ze, 98),(w.heap.size+1+1+1,arr .i64 us, 136)]) (fun v _=>16 - (intOf v).toNat)
  case atStart=>exact ⟨0,Nat.zero_le _,rfl,ts,uE.out,(by intro n;rw [if_neg (by omega)];have:=HTB.out n;omega),(by rw [HTV.out,si,Int.mul_zero,Int.add_zero]),HB.out⟩
  case round =>
   obtain ⟨k,hk,rfl,us,ul,ub,uv,hU⟩:=hrel
   by_cases hlk:k < 16
   ·have q0:=aN (hU.get 0 rfl) i (by rw [HX.out.1];exact hlt)
    have q1:=aN (hU.get 1 rfl) k (by rw [HY.out.1];exact hlk)
    have q2:=aN (hU.get 3 rfl) (i+k) (by rw [ul];omega)
    have q3:=aC (hU.get 3 rfl) (i+k)
    have pb:=prod_bound xs ys us i k HXB.out HYB.out hlt hlk ul ub
    have ps:=QJ xs ys us i k hlt hlk ul _ uv
    have ub0:=ub (i+k)
    rw [if_neg (by omega)] at ub0
    have hp : -1099511627776≤xs.getD i 0 * ys.getD k 0∧xs.getD i 0 * ys.getD k 0≤1099511627776:=by
     have h1:=HXB.out i
     have h2:=HYB.out k
     generalize xs.getD i 0=x at h1
     generalize ys.getD k 0=y at h2
     have e:=Int.natAbs_mul x y
     have a1:x.natAbs≤1048576:=by omega
     have a2:y.natAbs≤1048576:=by omega
     have:=Nat.mul_le_mul a1 a2
     omega
    have HPB:=Lib.hid pb
    have MB:=Lib.hid ps
    have MC:Hid ((us.set (i+k) (us.getD (i+k) 0+xs.getD i 0 * ys.getD k 0)).length=31):=Lib.hid (by rw [List.length_set,ul])
    have hb1:=hU.cell 3 rfl (i+k) (.int .i64 (us.getD (i+k) 0+xs.getD i 0 * ys.getD k 0))
    obtain ⟨vs,hvs⟩:∃ vs,vs=us.set (i+k) (us.getD (i+k) 0+xs.getD i 0 * ys.getD k 0):=⟨_,rfl⟩
    have e2:(arr .i64 us).setIfInBounds (i+k) (.int .i64 (us.getD (i+k) 0+xs.getD i 0 * ys.getD k 0))=arr .i64 vs:=by rw [aY,hvs]
    have HB1:=Lib.hid (hb1.cast (l':=[(w.heap.size,arr .i64 xs, 98),(w.heap.size+1,arr .i64 ys, 98),(w.heap.size+1+1,arr .i64 ze, 98),(w.heap.size+1+1+1,arr .i64 vs, 136)]) (by rw [← e2];rfl))
    rw [← hvs] at HPB MB MC
    clear hb1 e2 hvs hU ul ub uv pb ps
    generalize us.getD (i+k) 0=u at q2 ub0 HB1
    generalize xs.getD i 0=x at q0 hp MB HB1
    generalize ys.getD k 0=y at q1 hp HB1
    go_wp2_with fail
    go_region
    go_wp2_with fail
    go_roundw
    case rel=>exact ⟨k+1,by omega,by go_num,vs,MC.out,HPB.out,MB.out,HB1.out.drew⟩
    case measure=>simp [intOf];omega
   ·obtain rfl:k=16:=by omega
    rw [HYV.out] at uv
    have HU:=Lib.hid hU
    have Jd:=Lib.hid ul
    have HUB:Hid (∀ n, -(1099511627776 * ((i+1:Nat):Int))≤us.getD n 0∧us.getD n 0≤1099511627776 * ((i+1:Nat):Int)):=Lib.hid (by
     intro n
     have:=ub n
     by_cases e:i≤n∧n < i+16
     ·rw [if_pos e] at this;omega
     ·rw [if_neg e] at this;omega)
    have HUV:Hid (vi us=si (i+1) (fun j=>65536 ^ j * xs.getD j 0) * vi ys):=Lib.hid (by rw [uv,si,Int.add_mul])
    clear hU ul ub uv HB uE HTB HTV
    go_wp2_with fail
    go_roundw
    case rel=>exact ⟨i+1,by omega,by go_num,us,Jd.out,HUB.out,HUV.out,HU.out⟩
    case measure=>simp [intOf];omega
 ·obtain rfl:i=16:=by omega
  rw [HXV.out] at tv
  have hf:=El.mul HX.out HY.out tl (by intro n;have:=SE n;omega) tv
  have fb:∀ x∈foldr ts, -1125899906842624≤x∧x≤1125899906842624:=yB _ _ _ fun i _=>by
   have h1:=SE i
   have h2:=SE (i+16)
   split <;> omega
  have n1:jR (38 * 17180200000) (carry (foldr ts)):=kN _ 1125899906842624 17180200000 (bT _ _ fb (by decide)) (by decide) (by decide)
  have Br:=Lib.hid (fun w=>iC (foldr ts) w (dP _ _) (fun x hx=>by have:=fb x hx;omega))
  have PV:=Lib.hid (fun w=>iC (carry (foldr ts)) w (gP _) (fun x hx=>by have:=mH n1 (by decide) x hx;omega))
  obtain ⟨rs,hrs⟩:∃ rs,rs=carry (carry (foldr ts)):=⟨_,rfl⟩
  have iK:Hid (rs.length=16):=Lib.hid (by rw [hrs];exact gP _)
  rw [← hrs] at hf PV
  obtain ⟨cs1,hcs1⟩:∃ cs,cs=carry (foldr ts):=⟨_,rfl⟩
  rw [← hcs1] at Br PV
  have HF:=Lib.hid hf
  have HTB:=Lib.hid SE
  have uE:=Lib.hid tl
  have HB:=Lib.hid (hB.alloc (arr .i64 ze) 98)
  clear hf fb n1 hrs hcs1 SE tl tv hB
  go_wp2_with (first|((with_reducible refine aS 8 ?_);refine aj rfl 98 rfl _ (dM.out _) ?_))
  generalize wr.heap.size=go at HB ⊢
  go_loopw [9] (fun v wq=>∃ i:Nat,i≤16∧v = .int .i64 i∧∃ os:List Int,os=mf ts i∧bM w wq [(w.heap.size,arr .i64 xs, 98),(w.heap.size+1,arr .i64 ys, 98),(w.heap.size+1+1,arr .i64 ze, 98),(w.heap.size+1+1+1,arr .i64 ts, 136),(go,arr .i64 os, 98)]) (fun v _=>16 - (intOf v).toNat)
  case atStart=>exact ⟨0,Nat.zero_le _,rfl,_,HZ0.out ts,HB.out⟩
  case round =>
   obtain ⟨i,hi,rfl,os,hos,hQ⟩:=hrel
   have ol:os.length=16:=by rw [hos];exact dP _ _
   by_cases hlo:i < 16
   ·have q0:=aN (hQ.get 3 rfl) i (by rw [uE.out];omega)
    have q2:=aN (hQ.get 4 rfl) i (by rw [ol];exact hlo)
    have q3:=aC (hQ.get 4 rfl) i
    have b0:=HTB.out i
    by_cases h15:i < 15
    ·have q1:=aN (hQ.get 3 rfl) (i+16) (by rw [uE.out];omega)
     have b1:=HTB.out (i+16)
     have st:=OJ ts i _ (if_pos h15)
     generalize ts.getD i 0=x at q0 b0 st
     generalize ts.getD (i+16) 0=y at q1 b1 st
     have hb1:=(hQ.cell 4 rfl i (.int .i64 x)).cell 4 rfl i (.int .i64 (x+38 * y))
     have e2:((arr .i64 os).setIfInBounds i (.int .i64 x)).setIfInBounds i (.int .i64 (x+38 * y))=arr .i64 (mf ts (i+1)):=by rw [aY,aY,List.set_set,hos,st]
     have HB1:=Lib.hid (hb1.cast (l':=[(w.heap.size,arr .i64 xs, 98),(w.heap.size+1,arr .i64 ys, 98),(w.heap.size+1+1,arr .i64 ze, 98),(w.heap.size+1+1+1,arr .i64 ts, 136),(go,arr .i64 (mf ts (i+1)), 98)]) (by rw [← e2];rfl))
     clear hb1 e2 hos hQ st ol
     go_wp2_with fail
     go_region
     go_wp2_with fail
     go_roundw
     case rel=>exact ⟨i+1,by omega,by go_num,_,rfl,HB1.out.drew⟩
     case measure=>simp [intOf];omega
    ·have st:=OJ ts i _ (if_neg h15)
     generalize ts.getD i 0=x at q0 b0 st
     have hb1:=hQ.cell 4 rfl i (.int .i64 x)
     have e2:(arr .i64 os).setIfInBounds i (.int .i64 x)=arr .i64 (mf ts (i+1)):=by rw [aY,hos,st]
     have HB1:=Lib.hid (hb1.cast (l':=[(w.heap.size,arr .i64 xs, 98),(w.heap.size+1,arr .i64 ys, 98),(w.heap.size+1+1,arr .i64 ze, 98),(w.heap.size+1+1+1,arr .i64 ts, 136),(go,arr .i64 (mf ts (i+1)), 98)]) (by rw [← e2];rfl))
     clear hb1 e2 hos hQ st ol
     go_wp2_with fail
     go_roundw
     case rel=>exact ⟨i+1,by omega,by go_num,_,rfl,HB1.out⟩
     case measure=>simp [intOf];omega
   ·obtain rfl:i=16:=by omega
    rw [mf_all] at hos
    rw [← hos] at Br
    have HQ:=Lib.hid hQ
    have HOL:=Lib.hid ol
    clear hQ ol hos HB
    go_wp2_with (first|((with_reducible refine aS 57 ?_);refine ak rfl 98 _ rfl (go) 0 _ 98 (0,0) _ (HQ.out.get 4 rfl) rfl .i64 os (au _ _) Tryd.underlying98 rfl (bI HOL.out) ?_)|((with_reducible show Calls _ _ #[.agg (arr _ os)] _ _);go_at_call 88; refine (Br.out _).mono ?_;rintro e w6 ⟨rfl,hb6⟩;have kQ:=Lib.hid (HQ.out.kept hb6);clear hb6)|((with_reducible show Calls _ _ #[.agg (arr _ cs1)] _ _);go_at_call 88; refine (PV.out _).mono ?_;rintro e w7 ⟨rfl,dV⟩;have eX:=Lib.hid (kQ.out.kept dV);clear dV)|((with_reducible refine aT 4 ?_);refine ah rfl 98 _ _ rfl (w.heap.size+1+1) _ _ 98 (eX.out.get 2 rfl) rfl rfl (ay _ _ iK.out dB.out) (cO iK.out) (av _ _) ?_;intro w8 jH nU qZ;have fM:=Lib.hid (eX.out.put 2 rfl nU jH);clear jH nU qZ))
    (try simp only [Exit.inBlock,Exit.then])
    refine bodyPost_ret (results_cell_row rfl _ _ (w.heap.size+1+1) 98 _ (0,0) _ rfl (fM.out.get 2 rfl) Tryd.underlying98 rfl (cO iK.out)) rfl ?_
    exact ⟨_,rfl,HF.out,fM.out.below⟩
end Go.Proofs.YthdgbgleklkaiaaDoor.Rd
namespace Go.Proofs.YthdgbgleklkaiaaDoor.Rd
open Go.RowKit Lm Fp
theorem and1 (d:Int) (h:d = -1∨d=0):bits .and .i64 d 1 = -d:=by rcases h with rfl|rfl <;> decide
theorem toNat_ofInt64 (x:Int):((BitVec.ofInt 64 x).toNat:Int)=x % 18446744073709551616:=by
 rw [BitVec.toNat_ofInt]
 have:=Int.emod_nonneg x (show (18446744073709551616:Int)≠0 by decide)
 exact Int.toNat_of_nonneg this
theorem andFF (x:Int):bits .and .i64 x 65535=x % 65536:=by
 have h1:=toNat_ofInt64 x
 have h2:(BitVec.ofInt 64 (65535:Int)).toNat=65535:=by decide
 show IntKind.i64.wrap ((BitVec.ofInt 64 x &&& BitVec.ofInt 64 (65535:Int)).toNat:Int)=_
 rw [BitVec.toNat_and,h2,show 65535=2 ^ 16 - 1 from rfl,Nat.and_two_pow_sub_one_eq_mod,IntKind.wrap_i64]
 omega
theorem andF (x:Int):IntKind.u8.wrap (bits .and .i64 x 255)=x % 256:=by
 have h1:=toNat_ofInt64 x
 have h2:(BitVec.ofInt 64 (255:Int)).toNat=255:=by decide
 show IntKind.u8.wrap (IntKind.i64.wrap ((BitVec.ofInt 64 x &&& BitVec.ofInt 64 (255:Int)).toNat:Int))=_
 rw [BitVec.toNat_and,h2,show 255=2 ^ 8 - 1 from rfl,Nat.and_two_pow_sub_one_eq_mod,IntKind.wrap_i64,IntKind.wrap_u8]
 omega
def it (V:Nat):Nat→Nat
 | 0=>V
 | k+1=>qF (it V k)
theorem Vq (V:Nat) (h:V < 65536 ^ 16):it V 3=V % p:=by
 have e:=Rb V (Nat.lt_of_lt_of_le h (by decide))
 show qF (qF (qF V))=_
 rw [e,qF,if_pos (Nat.mod_lt _ yZ)]
theorem nD (xs:List Int) (a:Nat) (w:World) (hx:El xs a) :
  Calls Tryd.prog 67 #[.agg (arr .i64 xs)] w fun e w'=>e = .returned (.agg (arr .u8 (aW (bD 256 32 a))))∧Below w.heap.size w w':=by
 obtain ⟨ze,iH⟩:∃ zs:List Int,zs=List.replicate 16 0:=⟨_,rfl⟩
 have dM:Hid (∀ w,(zeroValue 98).run Tryd.prog w = .ok (.agg (arr .i64 ze)) w):=Lib.hid (by intro w;rw [iH];exact gF w)
 have dB:Hid (ze.length=16):=Lib.hid (by rw [iH];rfl)
 obtain ⟨zn,hzn⟩:∃ zs:List Int,zs=List.replicate 32 0:=⟨_,rfl⟩
 have dx:Hid (∀ w,(zeroValue 23).run Tryd.prog w = .ok (.agg (arr .u8 zn)) w):=Lib.hid (by intro w;rw [hzn];exact zero_num w)
 have cB:Hid (zn.length=32):=Lib.hid (by rw [hzn];rfl)
 have HZ0:Hid (∀ us,zn=outs us 0):=Lib.hid (fun us=>by rw [hzn];exact QN us)
 have HZ1:Hid (∀ ds:List Int,ze.set 0 (ds.getD 0 0)=sb ds 1):=Lib.hid (fun ds=>by rw [iH];exact sb_one ds)
 have HZG:Hid (ze.getD 0 0=0):=Lib.hid (by rw [iH];rfl)
 obtain ⟨f1,f2⟩:=Rs hx
 have n1:jR (38 * 17) (carry xs):=kN xs 1048576 17 (bT xs 1048576 hx.2.1 (by decide)) (by decide) (by decide)
 have n2:jR 38 (carry (carry xs)):=pK _ _ n1 (by decide) (by decide)
 have n3:=pO _ n2
 have HC0:=Lib.hid (fun w=>iC xs w hx.1 (fun x h=>by have:=hx.2.1 x h;omega))
 have Br:=Lib.hid (fun w=>iC (carry xs) w (gP _) (fun x h=>by have:=mH n1 (by decide) x h;omega))
 have PV:=Lib.hid (fun w=>iC (carry (carry xs)) w (gP _) (fun x h=>by have:=mH n2 (by decide) x h;omega))
 have HC3:=Lib.hid (fun w=>iC (carry (carry (carry xs))) w (gP _) (fun x h=>by have:=mH n3 (by decide) x h;omega))
 obtain ⟨c4,h4⟩:∃ c,c=carry (carry (carry (carry xs))):=⟨_,rfl⟩
 rw [← h4] at f1 f2 HC3
 clear h4
 obtain ⟨c3,h3⟩:∃ c,c=carry (carry (carry xs)):=⟨_,rfl⟩
 rw [← h3] at PV HC3
 clear h3
 obtain ⟨c2,h2⟩:∃ c,c=carry (carry xs):=⟨_,rfl⟩
 rw [← h2] at Br PV
 clear h2
 obtain ⟨c1,h1⟩:∃ c,c=carry xs:=⟨_,rfl⟩
 rw [← h1] at HC0 Br
 clear h1 n1 n2 n3
 obtain ⟨c0,h0⟩:∃ c,c=xs:=⟨_,rfl⟩
 rw [← h0] at HC0 hx ⊢
 obtain ⟨V,hV⟩:=QU f1
 have HN4:=Lib.hid f1
 have HV:=Lib.hid hV
 have hV2:=(Ct f1 V hV).2
 have HIT:Hid (it V 3=a):=Lib.hid (by
  rw [Vq V hV2]
  rw [hV,← Int.natCast_emod] at f2
  omega)
 have HL4:=Lib.hid f1.1
 have SB:=Lib.hid hx.1
 have bN:=Lib.hid (bM.two w (arr .i64 c0) (arr .u8 zn) 98 23)
 clear iH hzn hx f1 f2 hV hV2 h0
 go_enter Tryd.func67, Tryd.ntmps67
 go_wp2_with (first|((with_reducible refine aS 2 ?_);refine aj rfl 23 rfl _ (dx.out _) ?_)|((with_reducible refine aS 8 ?_);refine ak rfl 98 _ rfl (w.heap.size) 0 _ 98 (0,0) _ (bN.out.get 0 rfl) rfl .i64 c0 (au _ _) Tryd.underlying98 rfl (bI SB.out) ?_)|((with_reducible show Calls _ _ #[.agg (arr _ c0)] _ _);go_at_call 88; refine (HC0.out _).mono ?_;rintro e w1 ⟨rfl,hb1⟩;have HB1:=Lib.hid (bN.out.kept hb1);clear hb1)|((with_reducible show Calls _ _ #[.agg (arr _ c1)] _ _);go_at_call 88; refine (Br.out _).mono ?_;rintro e w2 ⟨rfl,hb2⟩;have HB2:=Lib.hid (HB1.out.kept hb2);clear hb2)|((with_reducible show Calls _ _ #[.agg (arr _ c2)] _ _);go_at_call 88; refine (PV.out _).mono ?_;rintro e w3 ⟨rfl,hb3⟩;have HB3:=Lib.hid (HB2.out.kept hb3);clear hb3)|((with_reducible show Calls _ _ #[.agg (arr _ c3)] _ _);go_at_call 88; refine (HC3.out _).mono ?_;rintro e w4 ⟨rfl,hb4⟩;have qE:=Lib.hid (HB3.out.kept hb4);clear hb4)|((with_reducible refine aT 1 ?_);refine ah rfl 98 _ _ rfl (w.heap.size) _ _ 98 (qE.out.get 0 rfl) rfl rfl (ay _ _ HL4.out SB.out) (cO HL4.out) (av _ _) ?_;intro w5 hb5 hk5 Rh;have gu:=Lib.hid (qE.out.put 0 rfl hk5 hb5);clear hb5 hk5 Rh))
 go_loopw [3] (fun v wr=>∃ k:Nat,k≤3∧v = .int .i64 k∧∃ us:List Int,jR 0 us∧vi us=(it V k:Int)∧bM w wr [(w.heap.size,arr .i64 us, 98),(w.heap.size+1,arr .u8 zn, 23)]) (fun v _=>3 - (intOf v).toNat)
 case atStart=>exact ⟨0,Nat.zero_le _,rfl,c4,HN4.out,HV.out,gu.out⟩
 clear bN HB1 HB2 HB3 qE gu
 case round =>
 obtain ⟨k,hk,rfl,us,un,uv,hB⟩:=hrel
 by_cases hlt:k < 3
 ·obtain ⟨ds,hds⟩:∃ ds,ds=jV us:=⟨_,rfl⟩
  have HUN:=Lib.hid un
  have HUV:=Lib.hid uv
  have HDS:=Lib.hid hds
  have HCR:Hid (∀ j,j < 16 → -65536≤ds.getD j 0+cr ds j∧ds.getD j 0+cr ds j≤65535):=Lib.hid (fun j hj=>by
   have h1:=jB un j
   have h2:=vK j
   have h3:=EF un j (by omega)
   rw [hds,mM us j hj]
   omega)
  have b0:=jB un 0
  have e0:us.getD 0 0 - 65517=ds.getD 0 0:=by rw [hds,mM us 0 (by decide)];rfl
  have hb1:=hB.alloc (arr .i64 ze) 98
  have q0:=aN (hb1.get 0 rfl) 0 (by rw [un.1];decide)
  have q1:=aN (hb1.get 2 rfl) 0 (by rw [dB.out];decide)
  have q2:=aC (hb1.get 2 rfl) 0
  have HBM:Hid (bM w (wr.alloc (.cells ((arr .i64 ze).setIfInBounds 0 (.int .i64 (us.getD 0 0 - 65517))) 98)) [(w.heap.size,arr .i64 us, 98),(w.heap.size+1,arr .u8 zn, 23),(wr.heap.size,arr .i64 (sb ds 1), 98)]):=Lib.hid ((hB.alloc ((arr .i64 ze).setIfInBounds 0 (.int .i64 (us.getD 0 0 - 65517))) 98).cast (by rw [aY,e0,HZ1.out ds];rfl))
  generalize us.getD 0 0=x at q0 b0 HBM
  clear hB un uv hds e0 hb1
  go_wp2_with (first|((with_reducible refine aS 4 ?_);refine aj rfl 98 rfl _ (dM.out _) ?_))
  generalize wr.heap.size=gm at HBM ⊢
  generalize wr.alloc (.cells ((arr .i64 ze).setIfInBounds 0 (.int .i64 (x - 65517))) 98)=wm at HBM ⊢
  clear q0 q1 q2 b0
  go_loopw [5] (fun v wq=>∃ j:Nat,j≤14∧v = .int .i64 ((j:Int)+1)∧∃ ms:List Int,ms=sb ds (j+1)∧bM w wq [(w.heap.size,arr .i64 us, 98),(w.heap.size+1,arr .u8 zn, 23),(gm,arr .i64 ms, 98)]) (fun v _=>15 - (intOf v).toNat)
  case atStart=>exact ⟨0,Nat.zero_le _,rfl,_,rfl,HBM.out⟩
  case round =>
   obtain ⟨j,hj,rfl,ms,hms,hQ⟩:=hrel
   have ml:ms.length=16:=by rw [hms];exact dP _ _
   have mg:=sb_get ds j (by omega)
   have cb:=HCR.out j (by omega)
   by_cases hlo:j < 14
   ·have q0:=aN (hQ.get 0 rfl) (j+1) (by rw [HUN.out.1];omega)
    have q1:=aN (hQ.get 2 rfl) j (by rw [ml];omega)
    have q2:=aN (hQ.get 2 rfl) (j+1) (by rw [ml];omega)
    have q3:=aC (hQ.get 2 rfl) (j+1)
    have q4:=aC (hQ.get 2 rfl) j
    have b0:=jB HUN.out (j+1)
    have e0:us.getD (j+1) 0 - 65535=ds.getD (j+1) 0:=by rw [HDS.out,mM us (j+1) (by omega),P16_get (j+1) (by omega) (by omega)]
    rw [hms,mg] at q1
    have st:=fun x hx=>Oh ds j x (by omega) hx
    generalize hx:ds.getD j 0+cr ds j=x at q1 st cb
    have st:=st x rfl
    rw [← e0] at st
    generalize us.getD (j+1) 0=y at q0 b0 st
    have ha:=and1 (x / 65536) (by omega)
    have hf:=andFF x
    have hb1:=(hQ.cell 2 rfl (j+1) (.int .i64 (y - 65535 - bits .and .i64 (x / 65536) 1))).cell 2 rfl j (.int .i64 (bits .and .i64 x 65535))
    have e2:((arr .i64 ms).setIfInBounds (j+1) (.int .i64 (y - 65535 - bits .and .i64 (x / 65536) 1))).setIfInBounds j (.int .i64 (bits .and .i64 x 65535))=arr .i64 (sb ds (j+1+1)):=by
     rw [ha,hf,aY,aY,hms,show y - 65535 - -(x / 65536)=y - 65535+x / 65536 by omega,st]
    have HB1:=Lib.hid ((hb1.drew).cast (l':=[(w.heap.size,arr .i64 us, 98),(w.heap.size+1,arr .u8 zn, 23),(gm,arr .i64 (sb ds (j+1+1)), 98)]) (by rw [← e2];rfl))
    have hbd:bits .and .i64 (x / 65536) 1=0∨bits .and .i64 (x / 65536) 1=1:=by rw [ha];omega
    clear hb1 e2 hms hQ st ml mg hx ha hf e0
    go_wp2_with fail
    go_region
    go_wp2_with fail
    go_roundw
    case rel=>exact ⟨j+1,by omega,by go_num,_,rfl,HB1.out⟩
    case measure=>simp [intOf];omega
   ·obtain rfl:j=14:=by omega
    have q0:=aN (hQ.get 0 rfl) 15 (by rw [HUN.out.1];omega)
    have q1:=aN (hQ.get 2 rfl) 14 (by rw [ml];omega)
    have q2:=aN (hQ.get 2 rfl) 15 (by rw [ml];omega)
    have q3:=aC (hQ.get 2 rfl) 15
    have q4:=aC (hQ.get 2 rfl) 14
    have b0:=jB HUN.out 15
    have e0:us.getD 15 0 - 32767=ds.getD 15 0:=by rw [HDS.out,mM us 15 (by omega)];rfl
    rw [hms,mg] at q1
    have st:=fun x hx=>Oh ds 14 x (by omega) hx
    have sd:=sub_dec HUN.out (it V k) HUV.out
    rw [← HDS.out,← e0] at sd
    have c15:cr ds 15=(ds.getD 14 0+cr ds 14) / 65536:=rfl
    rw [c15] at sd
    generalize hx:ds.getD 14 0+cr ds 14=x at q1 st cb sd
    have st:=st x rfl
    rw [show (14+1:Nat)=15 from rfl,← e0,show (14+2:Nat)=16 from rfl,sb_last] at st
    generalize us.getD 15 0=y at q0 b0 st sd
    have ha:=and1 (x / 65536) (by omega)
    have hf:=andFF x
    have hb1:=(hQ.cell 2 rfl 15 (.int .i64 (y - 32767 - bits .and .i64 (x / 65536) 1))).cell 2 rfl 14 (.int .i64 (bits .and .i64 x 65535))
    have e2:((arr .i64 ms).setIfInBounds 15 (.int .i64 (y - 32767 - bits .and .i64 (x / 65536) 1))).setIfInBounds 14 (.int .i64 (bits .and .i64 x 65535))=arr .i64 (mid ds 15):=by
     rw [ha,hf,aY,aY,hms,show y - 32767 - -(x / 65536)=y - 32767+x / 65536 by omega,st]
    have HB1:=Lib.hid (hb1.cast (l':=[(w.heap.size,arr .i64 us, 98),(w.heap.size+1,arr .u8 zn, 23),(gm,arr .i64 (mid ds 15), 98)]) (by rw [← e2];rfl))
    obtain ⟨mm,hmm⟩:∃ m,m=mid ds 15:=⟨_,rfl⟩
    rw [← hmm] at HB1 sd
    have uG:Hid (mm.length=16):=Lib.hid (by rw [hmm];exact dP _ _)
    have hbd:bits .and .i64 (x / 65536) 1=0∨bits .and .i64 (x / 65536) 1=1:=by rw [ha];omega
    have hsg:y - 32767 - bits .and .i64 (x / 65536) 1=y - 32767+x / 65536:=by rw [ha];omega
    rcases sd with ⟨s1,s2⟩|⟨s1,s2,s3,s4⟩
    ·have hge:¬ 0≤y - 32767 - bits .and .i64 (x / 65536) 1:=by omega
     have HUW:Hid (vi us=(it V (k+1):Int)):=Lib.hid (by rw [HUV.out,it,qF,if_pos s2])
     clear hb1 e2 hms hQ st ml mg hx ha hf e0 c15 s1 s2 hmm hsg
     go_wp2_with fail
     go_roundw
     case rel=>exact ⟨k+1,by omega,by go_num,us,HUN.out,HUW.out,HB1.out.less 2⟩
     case measure=>simp [intOf];omega
    ·have hge:0≤y - 32767 - bits .and .i64 (x / 65536) 1:=by omega
     have HUM:=Lib.hid s3
     have HUW:Hid (vi mm=(it V (k+1):Int)):=Lib.hid (by rw [s4,it,qF,if_neg (by omega)])
     have Jd:=Lib.hid HUN.out.1
     clear hb1 e2 hms hQ st ml mg hx ha hf e0 c15 s1 s2 s3 s4 hmm hsg
     go_wp2_with (first|((with_reducible refine aS 62 ?_);refine ak rfl 98 _ rfl (gm) 0 _ 98 (0,0) _ (HB1.out.get 2 rfl) rfl .i64 mm (au _ _) Tryd.underlying98 rfl (bI uG.out) ?_)|((with_reducible refine aT 1 ?_);refine ah rfl 98 _ _ rfl (w.heap.size) _ _ 98 (HB1.out.get 0 rfl) rfl rfl (ay _ _ uG.out Jd.out) (cO uG.out) (av _ _) ?_;intro w7 dV iA kZ;have eX:=Lib.hid (HB1.out.put 0 rfl iA dV);clear dV iA kZ))
     go_roundw
     case rel=>exact ⟨k+1,by omega,by go_num,mm,HUM.out,HUW.out,eX.out.less 2⟩
     case measure=>simp [intOf];omega
 ·obtain rfl:k=3:=by omega
  rw [HIT.out] at uv
  obtain ⟨d1,d2⟩:=Ct un a uv
  have HUN:=Lib.hid un
  have HB:=Lib.hid (hB.alloc (arr .u8 zn) 23)
  have HOA:Hid (outs us 16=aW (bD 256 32 a)):=Lib.hid (by rw [d1];exact UQ a)
  obtain ⟨oa,hoa⟩:∃ o,o=aW (bD 256 32 a):=⟨_,rfl⟩
  rw [← hoa] at HOA
  have Z9:=Lib.hid hoa
  clear hB un uv d1 d2 hoa
  go_wp2_with (first|((with_reducible refine aS 6 ?_);refine aj rfl 23 rfl _ (dx.out _) ?_))
  generalize wr.heap.size=gn at HB ⊢
  go_loopw [7] (fun v wq=>∃ i:Nat,i≤16∧v = .int .i64 i∧∃ os:List Int,os=outs us i∧bM w wq [(w.heap.size,arr .i64 us, 98),(w.heap.size+1,arr .u8 zn, 23),(gn,arr .u8 os, 23)]) (fun v _=>16 - (intOf v).toNat)
  case atStart=>exact ⟨0,Nat.zero_le _,rfl,_,HZ0.out us,HB.out⟩
  case round =>
   obtain ⟨i,hi,rfl,os,hos,hQ⟩:=hrel
   have ol:os.length=32:=by rw [hos];exact dP _ _
   by_cases hlo:i < 16
   ·have q0:=aN (hQ.get 0 rfl) i (by rw [HUN.out.1];omega)
    have q3:=aC (hQ.get 2 rfl) (2 * i)
    have q4:=aC (hQ.get 2 rfl) (2 * i+1)
    have q5:=aN (hQ.get 2 rfl) (2 * i) (by rw [ol];omega)
    have q6:=aN (hQ.get 2 rfl) (2 * i+1) (by rw [ol];omega)
    have b0:=jB HUN.out i
    have st:=fun x hx=>QO us i x hx
    generalize hx:us.getD i 0=x at q0 b0 st
    have st:=st x rfl
    have a0:=andF x
    rw [IntKind.wrap_u8] at a0
    have a1:=andF (x / 256)
    rw [IntKind.wrap_u8] at a1
    have hne:=hQ.ne 0 2 rfl rfl (by decide)
    have hne':=hQ.ne 2 0 rfl rfl (by decide)
    have hb1:=(hQ.cell 2 rfl (2 * i) (.int .u8 (bits .and .i64 x 255 % 256))).cell 2 rfl (2 * i+1) (.int .u8 (bits .and .i64 (x / 256) 255 % 256))
    have e2:((arr .u8 os).setIfInBounds (2 * i) (.int .u8 (bits .and .i64 x 255 % 256))).setIfInBounds (2 * i+1) (.int .u8 (bits .and .i64 (x / 256) 255 % 256))=arr .u8 (outs us (i+1)):=by rw [a0,a1,aY,aY,hos,st]
    have HB1:=Lib.hid (hb1.cast (l':=[(w.heap.size,arr .i64 us, 98),(w.heap.size+1,arr .u8 zn, 23),(gn,arr .u8 (outs us (i+1)), 23)]) (by rw [← e2];rfl))
    have m1:(2 * (i:Int)).toNat=2 * i:=by omega
    have m2:(2 * (i:Int)+1).toNat=2 * i+1:=by omega
    clear hb1 e2 hos hQ st ol hx a0 a1
    go_wp2_with fail
    go_roundw
    case rel=>exact ⟨i+1,by omega,by go_num,_,rfl,HB1.out⟩
    case measure=>simp [intOf];omega
   ·obtain rfl:i=16:=by omega
    rw [HOA.out] at hos
    subst hos
    have HQ:=Lib.hid hQ
    have HOL:=Lib.hid ol
    clear hQ ol
    go_wp2_with (first|((with_reducible refine aS 85 ?_);refine ak rfl 23 _ rfl (gn) 0 _ 23 (0,0) _ (HQ.out.get 2 rfl) rfl .u8 os (au _ _) Tryd.underlying23 rfl (bU HOL.out) ?_)|((with_reducible refine aT 2 ?_);refine ah rfl 23 _ _ rfl (w.heap.size+1) _ _ 23 (HQ.out.get 1 rfl) rfl rfl (ay _ _ HOL.out cB.out) (bE HOL.out) (av _ _) ?_;intro w8 jH nU qZ;have fM:=Lib.hid (HQ.out.put 1 rfl nU jH);clear jH nU qZ))
    (try simp only [Exit.inBlock,Exit.then])
    refine bodyPost_ret (results_cell_row rfl _ _ (w.heap.size+1) 23 _ (0,0) _ rfl (fM.out.get 1 rfl) Tryd.underlying23 rfl (bE HOL.out)) rfl ?_
    exact ⟨by rw [Z9.out],fM.out.below⟩
end Go.Proofs.YthdgbgleklkaiaaDoor.Rd
