/- The document's Reduce: The document's AddQ. Condition: as each theorem says. -/

import Derived.Test.YthdgbgleklkaiaaDoorQa25
set_option linter.unusedSimpArgs false
set_option linter.unusedVariables false
set_option maxRecDepth 100000
set_option maxHeartbeats 16000000
namespace Go.Proofs.YthdgbgleklkaiaaDoor.Rd
open Go.RowKit Lm Sc
theorem and1i (y:Nat) (h:y < 9223372036854775808):bits .and .i64 (y:Int) 1=((y % 2:Nat):Int):=by
 have e:y &&& 1=y % 2:=Nat.and_two_pow_sub_one_eq_mod y 1
 have h1:(BitVec.ofInt 64 (y:Int)).toNat=y:=by rw [BitVec.ofInt_natCast,BitVec.toNat_ofNat];exact Nat.mod_eq_of_lt (by omega)
 have h2:(BitVec.ofInt 64 (1:Int)).toNat=1:=by decide
 show IntKind.i64.wrap ((BitVec.ofInt 64 (y:Int) &&& BitVec.ofInt 64 (1:Int)).toNat:Int)=_
 rw [BitVec.toNat_and,h1,h2,e,IntKind.wrap_i64]
 omega
theorem qB (x:Nat) (hx:x < 9223372036854775808):bits .and .i64 (x:Int) 255=((x % 256:Nat):Int):=by
 have e:x &&& 255=x % 256:=Nat.and_two_pow_sub_one_eq_mod x 8
 have h1:(BitVec.ofInt 64 (x:Int)).toNat=x:=by rw [BitVec.ofInt_natCast,BitVec.toNat_ofNat];exact Nat.mod_eq_of_lt (by omega)
 have h2:(BitVec.ofInt 64 (255:Int)).toNat=255:=by decide
 show IntKind.i64.wrap ((BitVec.ofInt 64 (x:Int) &&& BitVec.ofInt 64 (255:Int)).toNat:Int)=_
 rw [BitVec.toNat_and,h1,h2,e,IntKind.wrap_i64]
 omega
theorem LU (V k:Nat) (hk:k < 512):∃ y:Nat,(aW (bD 256 64 V)).getD (k / 8) 0=y∧y < 256∧bits .and .i64 ((y:Int) / 2 ^ (k % 8)) 1=((V / 2 ^ k % 2:Nat):Int):=by
 refine ⟨V / 256 ^ (k / 8) % 256,by rw [bG,dA _ _ _ _ (by omega)],Nat.mod_lt _ (by decide),?_⟩
 have e1:((V / 256 ^ (k / 8) % 256:Nat):Int) / 2 ^ (k % 8)=((V / 256 ^ (k / 8) % 256 / 2 ^ (k % 8):Nat):Int):=by
  rw [Int.natCast_ediv,Int.natCast_pow];rfl
 rw [e1,and1i _ (Nat.lt_of_le_of_lt (Nat.div_le_self _ _) (Nat.lt_trans (Nat.mod_lt _ (by decide)) (by decide))),Ip]
theorem LJ:List.replicate 33 (0:Int)=aW (bD 256 33 0):=by decide +kernel
def Bw (N i:Nat):List Int:=tb 32 fun j=>if j < i then ((N / 256 ^ j % 256:Nat):Int) else 0
theorem Q9 (N:Nat):List.replicate 32 0=Bw N 0:=by
 rw [sO]
 exact bX _ _ _ fun j _=>by rw [if_neg (by omega)]
theorem Ra (N i:Nat):(Bw N i).set i ((N / 256 ^ i % 256:Nat):Int)=Bw N (i+1):=by
 rw [Bw,iI]
 refine bX _ _ _ fun j _=>?_
 by_cases e:j=i
 ·subst e;rw [if_pos rfl,if_pos (show j < j+1 by omega)]
 ·rw [if_neg e]
  by_cases e3:j < i
  ·rw [if_pos e3,if_pos (show j < i+1 by omega)]
  ·rw [if_neg e3,if_neg (show ¬ j < i+1 by omega)]
theorem Vh (N:Nat):Bw N 32=aW (bD 256 32 N):=by
 rw [BS 32 (aW (bD 256 32 N)) (by rw [aH,aI])]
 exact bX _ _ _ fun j hj=>by rw [if_pos hj,bG,dA _ _ _ _ hj]
theorem dbl_lt (P b:Nat) (hP:P < q) (hb:b≤1):2 * P+b < 256 ^ 33:=by
 have hq:2 * q < 256 ^ 33:=by decide +kernel
 omega
theorem qW (sa:Option Addr) (cp V:Nat) (w:World) (hs:Src w sa 64 (aW (bD 256 64 V))) (hV:V < 2 ^ 512) (hT:mP w) :
  Calls Tryd.prog 84 #[.slice sa 64 cp] w fun e w'=>e = .returned (.agg (arr .u8 (aW (bD 256 32 (V % q)))))∧Below w.heap.size w w':=by
 obtain ⟨ad,rfl, -⟩:=hs.cell 0 (by decide)
 have hcell:∀ i,i < 64→w.cell? (ad.add i)=some (.int .u8 ((aW (bD 256 64 V)).getD i 0)):=fun i hi=>by
  obtain ⟨a,h1,h2⟩:=hs.cell i hi
  cases h1
  exact h2
 have HCELL:=Lib.hid hcell
 have HT:=Lib.hid hT
 have HV:=Lib.hid hV
 obtain ⟨ro,hro⟩:∃ r,r=aW (bD 256 32 (V % q)):=⟨_,rfl⟩
 have HRO:Hid (Bw (V % q) 32=ro):=Lib.hid (by rw [hro];exact Vh _)
 have IC:Hid (ro.length=32):=Lib.hid (by rw [hro,aH,aI])
 rw [← hro]
 obtain ⟨zn,hzn⟩:∃ zs:List Int,zs=List.replicate 32 0:=⟨_,rfl⟩
 have dx:Hid (∀ w,(zeroValue 23).run Tryd.prog w = .ok (.agg (arr .u8 zn)) w):=Lib.hid (by intro w;rw [hzn];exact zero_num w)
 have cB:Hid (zn.length=32):=Lib.hid (by rw [hzn];rfl)
 obtain ⟨zr,hzr⟩:∃ zs:List Int,zs=List.replicate 33 0:=⟨_,rfl⟩
 have HZzr:Hid (∀ w,(zeroValue 141).run Tryd.prog w = .ok (.agg (arr .i64 zr)) w):=Lib.hid (by intro w;rw [hzr];exact NT w)
 have HLzr:Hid (zr.length=33):=Lib.hid (by rw [hzr];rfl)
 have HZ0:Hid (zr=aW (bD 256 33 0)):=Lib.hid (by rw [hzr];exact LJ)
 have HZN:Hid (zn=Bw (V % q) 0):=Lib.hid (by rw [hzn];exact Q9 _)
 have bN:=Lib.hid (bM.two w (arr .u8 zn) (arr .i64 zr) 23 141)
 clear hzn hzr hs hcell hT hV hro
 go_enter Tryd.func84, Tryd.ntmps84
 go_upto_region 4 with (first|((with_reducible refine aS 2 ?_);refine aj rfl 23 rfl _ (dx.out _) ?_)|((with_reducible refine aS 3 ?_);refine aj rfl 141 rfl _ (HZzr.out _) ?_))
 (try simp only [World.size_alloc,Act.put,sA,sZ,sS])
 generalize w.heap.size+1=g3 at bN ⊢
 generalize ((w.alloc (.cells (arr .u8 zn) 23)).alloc (.cells (arr .i64 zr) 141))=wb at bN ⊢
 go_wp2_with fail
 go_loopw [4] (fun v wr=>∃ n:Nat,n≤512∧v = .int .i64 (511 - (n:Int))∧bM w wr [(w.heap.size,arr .u8 zn, 23),(g3,arr .i64 (aW (bD 256 33 (Qk V (512 - n)))), 141)]) (fun v _=>(intOf v+1).toNat)
 case atStart=>exact ⟨0,Nat.zero_le _,rfl,by rw [show 512 - 0=512 from rfl,upq_top V 512 HV.out,← HZ0.out];exact bN.out⟩
 case round =>
 obtain ⟨n,hn,rfl,hB⟩:=hrel
 by_cases hlt:n < 512
 ·obtain ⟨i,hi⟩:∃ i:Nat,i+n=511:=⟨511 - n,by omega⟩
  have hz:(511:Int) - (n:Int)=(i:Int):=by omega
  have hi2:i < 512:=by omega
  obtain ⟨y,hy,hy2,hbit⟩:=LU V i hi2
  have q0:=fJ hB.below (HCELL.out (i / 8) (by omega))
  rw [hy] at q0
  rw [show 512 - n=i+1 by omega] at hB
  rw [hz]
  have hps:=fun m=>TT V i m
  have hpl:=TU V (i+1)
  generalize Qk V (i+1)=P at hB hps hpl
  have hbl:V / 2 ^ i % 2≤1:=by omega
  generalize V / 2 ^ i % 2=b at hbit hps hbl
  obtain ⟨rs,hrs⟩:∃ r,r=bD 256 33 P:=⟨_,rfl⟩
  have hdl:=dbl_lt P b hpl hbl
  have rl:rs.length=33:=by rw [hrs,aI]
  have rb:∀ x∈rs,x < 256:=by rw [hrs];exact gV 256 (by decide) _ _
  have rv:val 256 rs=P:=by rw [hrs,eT];exact Nat.mod_eq_of_lt (by omega)
  rw [← hrs] at hB
  have HB:=Lib.hid hB
  have HI:=Lib.hid hi
  have MB:=Lib.hid hps
  have x9:=Lib.hid hdl
  have RL:=Lib.hid rl
  have RB:=Lib.hid rb
  have RV:=Lib.hid rv
  have q9:0≤(i:Int):=by omega
  clear hB hy hz hi hps hpl hrs hdl rl rb rv
  go_wp2_with fail
  clear q0 hbit
  go_loopw [5,6] (fun cv kv wr2=>∃ (k c:Nat) (us:List Nat),k≤33∧kv = .int .i64 k∧cv = .int .i64 c∧c≤1∧us.length=33∧(∀ x∈us,x < 256)∧(∀ j,k≤j→us.getD j 0=rs.getD j 0)∧val 256 (us.take k)+256 ^ k * c=val 256 (rs.take k)+(val 256 (rs.take k)+b)∧bM w wr2 [(w.heap.size,arr .u8 zn, 23),(g3,arr .i64 (aW us), 141)]) (fun _ kv _=>33 - (intOf kv).toNat)
  case atStart=>exact ⟨0,b,rs,Nat.zero_le _,rfl,rfl,hbl,RL.out,RB.out,(fun _ _=>rfl),by simp [val],HB.out⟩
  case round =>
   obtain ⟨k,c,us,hk,rfl,rfl,hc,hul,hub,hur,huv,hU⟩:=hrel
   by_cases hlk:k < 33
   ·have q2:=aN (hU.get 1 rfl) k (by rw [aH,hul];exact hlk)
    have q3:=aC (hU.get 1 rfl) k
    rw [bG,hur k (Nat.le_refl _)] at q2
    have r1:=dw RB.out (by decide) k
    have st:=fun s c' hs=>Iy 256 k _ _ _ (rs.getD k 0) (rs.getD k 0) c s c' huv hs
    have vm:=fun s=>kr 256 us k s (by omega)
    have vr:=bS 256 rs k (by rw [RL.out];exact hlk)
    generalize rs.getD k 0=r at q2 r1 st vr
    have hst:=st ((2 * r+c) % 256) ((2 * r+c) / 256) (by omega)
    rw [← vm] at hst
    have hst2:val 256 ((us.set k ((2 * r+c) % 256)).take (k+1))+256 ^ (k+1) * ((2 * r+c) / 256)=val 256 (rs.take (k+1))+(val 256 (rs.take (k+1))+b):=by rw [hst,vr];omega
    have ha:=qB (2 * r+c) (by omega)
    rw [show ((2 * r+c:Nat):Int)=2 * (r:Int)+(c:Int) by omega] at ha
    have hb1:=hU.cell 1 rfl k (.int .i64 (bits .and .i64 (2 * (r:Int)+(c:Int)) 255))
    have e2:(arr .i64 (aW us)).setIfInBounds k (.int .i64 (bits .and .i64 (2 * (r:Int)+(c:Int)) 255))=arr .i64 (aW (us.set k ((2 * r+c) % 256))):=by rw [ha,aY,← dn]
    have HU1:=Lib.hid (hb1.cast (l':=[(w.heap.size,arr .u8 zn, 23),(g3,arr .i64 (aW (us.set k ((2 * r+c) % 256))), 141)]) (by rw [← e2];rfl))
    have HST:=Lib.hid hst2
    have Jd:Hid ((us.set k ((2 * r+c) % 256)).length=33):=Lib.hid (by rw [List.length_set,hul])
    have HUB:Hid (∀ x∈us.set k ((2 * r+c) % 256),x < 256):=Lib.hid (jC hub _ _ (by omega))
    have HUR:Hid (∀ j,k+1≤j→(us.set k ((2 * r+c) % 256)).getD j 0=rs.getD j 0):=Lib.hid (by intro j hj;have e:=hur j (by omega);simp only [List.getD] at e ⊢; rw [List.getElem?_set_ne (by omega)];exact e)
    clear hb1 e2 hst hst2 st vm vr ha hU hul hub hur huv
    go_wp2_with fail
    go_roundw
    case rel=>exact ⟨k+1,(2 * r+c) / 256,_,by omega,by go_num,by go_num,by omega,Jd.out,HUB.out,HUR.out,HST.out,HU1.out⟩
    case measure=>simp [intOf];omega
   ·obtain rfl:k=33:=by omega
    rw [List.take_of_length_le (Nat.le_of_eq hul),List.take_of_length_le (Nat.le_of_eq RL.out),RV.out] at huv
    have hlv:=qQ 256 us hub
    rw [hul] at hlv
    have hdl:=x9.out
    have hc0:c=0:=by
     rcases (show c=0∨c=1 by omega) with h|h
     ·exact h
     ·subst h;omega
    subst hc0
    have hdig:=pG 256 (by decide) 33 (2 * P+b) us hul hub (by omega)
    have hl:=fun w h=>Vj (2 * P+b) w hdl h
    rw [MB.out _ rfl,← hdig] at hl
    have hul':(aW us).length=33:=by rw [aH,hul]
    have HTb:=Lib.hid (HT.out.below hU.below)
    obtain ⟨u0,hu0⟩:∃ x,x=aW us:=⟨_,rfl⟩
    rw [← hu0] at hU hl hul'
    obtain ⟨v0,hv0⟩:∃ x,x=aW (bD 256 33 (Qk V i)):=⟨_,rfl⟩
    rw [← hv0] at hl
    have HL:=Lib.hid hl
    have Jd:=Lib.hid hul'
    have HU:=Lib.hid hU
    have FZ:Hid (v0.length=33):=Lib.hid (by rw [hv0,aH,aI])
    have HV0:=Lib.hid hv0
    clear hU hul hub hur huv hlv hdl hc hdig hl hul' hu0 hv0 HB
    go_wp2_with (first|((with_reducible refine aS 50 ?_);refine ak rfl 141 _ rfl (g3) 0 _ 141 (0,0) _ (HU.out.get 1 rfl) rfl .i64 u0 (au _ _) Tryd.underlying141 rfl (N9 Jd.out) ?_)|((with_reducible show Calls _ 96 _ _ _);go_at_call 96; refine (HL.out _ HTb.out).mono ?_;rintro e w6 ⟨rfl,hb6⟩;have HU6:=Lib.hid (HU.out.kept hb6);clear hb6)|((with_reducible refine aT 3 ?_);refine ah rfl 141 _ _ rfl (g3) _ _ 141 (HU6.out.get 1 rfl) rfl rfl (ay _ _ FZ.out Jd.out) (BU FZ.out) (av _ _) ?_;intro w7 dV iA kZ;have HU7:=Lib.hid (HU6.out.put 1 rfl iA dV);clear dV iA kZ))
    go_roundw
    case rel =>
     have e:=HI.out
     exact ⟨n+1,by omega,by congr 1;omega,by rw [show 512 - (n+1)=i by omega,← HV0.out];exact HU7.out⟩
    case measure=>simp [intOf]
 ·obtain rfl:n=512:=by omega
  rw [show 512 - 512=0 from rfl,TQ] at hB
  have hz:(511:Int) - ((512:Nat):Int) = -1:=by omega
  rw [hz]
  have rl:(aW (bD 256 33 (V % q))).length=33:=by rw [aH,aI]
  have rg:∀ j,j < 32→(aW (bD 256 33 (V % q))).getD j 0=((V % q / 256 ^ j % 256:Nat):Int):=fun j hj=>by rw [bG,dA _ _ _ _ (by omega)]
  have HB:=Lib.hid (hB.alloc (arr .u8 zn) 23)
  generalize aW (bD 256 33 (V % q))=r0 at rl rg HB
  have RL:=Lib.hid rl
  have RG:=Lib.hid rg
  clear hz hB rl rg bN
  go_wp2_with (first|((with_reducible refine aS 8 ?_);refine aj rfl 23 rfl _ (dx.out _) ?_))
  generalize wr.heap.size=gn at HB ⊢
  go_loopw [9] (fun v wq=>∃ j:Nat,j≤32∧v = .int .i64 j∧∃ os:List Int,os=Bw (V % q) j∧bM w wq [(w.heap.size,arr .u8 zn, 23),(g3,arr .i64 r0, 141),(gn,arr .u8 os, 23)]) (fun v _=>32 - (intOf v).toNat)
  case atStart=>exact ⟨0,Nat.zero_le _,rfl,_,HZN.out,HB.out⟩
  case round =>
   obtain ⟨j,hj,rfl,os,hos,hQ⟩:=hrel
   have ol:os.length=32:=by rw [hos];exact dP _ _
   by_cases hlo:j < 32
   ·have q0:=aN (hQ.get 1 rfl) j (by rw [RL.out];omega)
    have q2:=aN (hQ.get 2 rfl) j (by rw [ol];omega)
    have q3:=aC (hQ.get 2 rfl) j
    rw [RG.out j hlo] at q0
    have st:=Ra (V % q) j
    have hz2:V % q / 256 ^ j % 256 < 256:=Nat.mod_lt _ (by decide)
    generalize V % q / 256 ^ j % 256=z at q0 st hz2
    have hb1:=hQ.cell 2 rfl j (.int .u8 (z:Int))
    have e2:(arr .u8 os).setIfInBounds j (.int .u8 (z:Int))=arr .u8 (Bw (V % q) (j+1)):=by rw [aY,hos,st]
    have HQ1:=Lib.hid (hb1.cast (l':=[(w.heap.size,arr .u8 zn, 23),(g3,arr .i64 r0, 141),(gn,arr .u8 (Bw (V % q) (j+1)), 23)]) (by rw [← e2];rfl))
    clear hb1 e2 hos hQ st ol
    go_wp2_with fail
    go_roundw
    case rel=>exact ⟨j+1,by omega,by go_num,_,rfl,HQ1.out⟩
    case measure=>simp [intOf];omega
   ·obtain rfl:j=32:=by omega
    rw [HRO.out] at hos
    subst hos
    have HQ:=Lib.hid hQ
    have HOL:=Lib.hid ol
    clear hQ ol HB
    go_wp2_with (first|((with_reducible refine aS 62 ?_);refine ak rfl 23 _ rfl (gn) 0 _ 23 (0,0) _ (HQ.out.get 2 rfl) rfl .u8 os (au _ _) Tryd.underlying23 rfl (bU HOL.out) ?_)|((with_reducible refine aT 2 ?_);refine ah rfl 23 _ _ rfl (w.heap.size) _ _ 23 (HQ.out.get 0 rfl) rfl rfl (ay _ _ HOL.out cB.out) (bE HOL.out) (av _ _) ?_;intro w8 jH nU qZ;have HQ8:=Lib.hid (HQ.out.put 0 rfl nU jH);clear jH nU qZ))
    (try simp only [Exit.inBlock,Exit.then])
    refine bodyPost_ret (results_cell_row rfl _ _ (w.heap.size) 23 _ (0,0) _ rfl (HQ8.out.get 0 rfl) Tryd.underlying23 rfl (bE HOL.out)) rfl ?_
    exact ⟨rfl,HQ8.out.below⟩
end Go.Proofs.YthdgbgleklkaiaaDoor.Rd
namespace Go.Proofs.YthdgbgleklkaiaaDoor.Rd
open Go.RowKit Lm Sc
theorem F8 (w:World):(zeroValue 25).run Tryd.prog w = .ok (.agg (arr .u8 (List.replicate 64 0))) w:=by kernel_rfl
theorem Gq {w:World} {g:Nat} {xs:List Int} {t:TypeId} {fr:Nat×Nat} (h:w.heap[g]? = some (.cells (arr .u8 xs) t fr)) (m:Nat) (hm:xs.length=m):Src w (some ⟨g,0,none⟩) m xs :=
 nu h (by rw [bQ,Nat.mul_one,List.take_of_length_le (by rw [List.length_map];exact Nat.le_refl _)]) hm
theorem lt_pow {a b:Nat} (ha:a < 256 ^ 32) (hb:b < 256 ^ 32) (n:Nat) (hn:257≤n):a+b < 2 ^ n:=by
 obtain ⟨k,rfl⟩:∃ k,n=256+(k+1):=⟨n - 257,by omega⟩
 rw [Nat.pow_add]
 have h2:2≤2 ^ (k+1):=by
  rw [Nat.pow_succ]
  have:=Nat.one_le_two_pow (n:=k)
  omega
 exact Nat.lt_of_lt_of_le (Nat.add_lt_add ha hb) (Nat.le_trans (show 256 ^ 32+256 ^ 32≤2 ^ 256 * 2 by decide) (Nat.mul_le_mul_left _ h2))
theorem zT (A k:Nat) (hA:A < 256 ^ 32) (hk:k < 33):(bD 256 33 A).getD k 0=if k < 32 then (bD 256 32 A).getD k 0 else 0:=by
 rw [dA _ _ _ _ hk]
 split
 ·rename_i h;rw [dA _ _ _ _ h]
 ·obtain rfl:k=32:=by omega
  rw [Nat.div_eq_of_lt hA]
theorem TN (n k:Nat) (xs:List Nat) (hl:xs.length=n) (hk:k≤n) (hz:∀ j,k≤j→xs.getD j 0=0):val 256 xs=val 256 (xs.take k):=by
 have e:xs=xs.take k ++ xs.drop k:=(List.take_append_drop k xs).symm
 have hd:xs.drop k=List.replicate (n - k) 0:=by
  apply List.ext_getElem
  ·simp [hl]
  ·intro i h1 h2
   have:=hz (k+i) (by omega)
   simp only [List.length_drop] at h1
   rw [List.getD,List.getElem?_eq_getElem (by omega)] at this
   simpa using this
 rw [e,val_append,hd,mq,Nat.mul_zero,Nat.add_zero,← hd,← e]
theorem ZF (a b:Nat) (w:World) (ha:a < 256 ^ 32) (hb:b < 256 ^ 32) (hT:mP w) :
  Calls Tryd.prog 62 #[.agg (arr .u8 (aW (bD 256 32 a))), .agg (arr .u8 (aW (bD 256 32 b)))] w fun e w'=>e = .returned (.agg (arr .u8 (aW (bD 256 32 ((a+b) % q)))))∧Below w.heap.size w w':=by
 have Ev:=fun w' ad cp (hs:Src w' ad 64 (aW (bD 256 64 (a+b)))) hT'=>qW ad cp (a+b) w' hs (lt_pow ha hb 512 (by decide)) hT'
 obtain ⟨xs,hxs⟩:∃ r,r=bD 256 33 a:=⟨_,rfl⟩
 obtain ⟨ys,hys⟩:∃ r,r=bD 256 33 b:=⟨_,rfl⟩
 have XL:Hid (xs.length=33):=Lib.hid (by rw [hxs,aI])
 have YL:Hid (ys.length=33):=Lib.hid (by rw [hys,aI])
 have XB:Hid (∀ x∈xs,x < 256):=Lib.hid (by rw [hxs];exact gV 256 (by decide) _ _)
 have YB:Hid (∀ x∈ys,x < 256):=Lib.hid (by rw [hys];exact gV 256 (by decide) _ _)
 have XV:Hid (val 256 xs=a):=Lib.hid (by rw [hxs,eT];exact Nat.mod_eq_of_lt (Nat.lt_of_lt_of_le ha (by decide)))
 have YV:Hid (val 256 ys=b):=Lib.hid (by rw [hys,eT];exact Nat.mod_eq_of_lt (Nat.lt_of_lt_of_le hb (by decide)))
 have XG:Hid (∀ k,k < 33→(if k < 32 then (bD 256 32 a).getD k 0 else 0)=xs.getD k 0):=Lib.hid (fun k h=>by rw [hxs];exact (zT a k ha h).symm)
 have YG:Hid (∀ k,k < 33→(if k < 32 then (bD 256 32 b).getD k 0 else 0)=ys.getD k 0):=Lib.hid (fun k h=>by rw [hys];exact (zT b k hb h).symm)
 have HAB:Hid (a+b < 256 ^ 33):=Lib.hid (Nat.lt_of_lt_of_le (Nat.add_lt_add ha hb) (by decide))
 obtain ⟨x0,hx0⟩:∃ r,r=aW (bD 256 32 a):=⟨_,rfl⟩
 obtain ⟨y0,hy0⟩:∃ r,r=aW (bD 256 32 b):=⟨_,rfl⟩
 have X0L:Hid (x0.length=32):=Lib.hid (by rw [hx0,aH,aI])
 have Y0L:Hid (y0.length=32):=Lib.hid (by rw [hy0,aH,aI])
 have X0G:Hid (∀ k,x0.getD k 0=(((bD 256 32 a).getD k 0:Nat):Int)):=Lib.hid (fun k=>by rw [hx0,bG])
 have Y0G:Hid (∀ k,y0.getD k 0=(((bD 256 32 b).getD k 0:Nat):Int)):=Lib.hid (fun k=>by rw [hy0,bG])
 rw [← hx0,← hy0]
 obtain ⟨ro,hro⟩:∃ r,r=aW (bD 256 32 ((a+b) % q)):=⟨_,rfl⟩
 have IC:Hid (ro.length=32):=Lib.hid (by rw [hro,aH,aI])
 rw [← hro] at Ev ⊢
 obtain ⟨so,hso⟩:∃ r,r=aW (bD 256 64 (a+b)):=⟨_,rfl⟩
 have HS64:Hid (so.length=64):=Lib.hid (by rw [hso,aH,aI])
 have HSO:=Lib.hid hso
 rw [← hso] at Ev
 have Sq:Hid (∀ (w':World) {ad:Option Addr} {cp:Nat},Src w' ad 64 so→mP w'→Calls Tryd.prog 84 #[.slice ad 64 cp] w' fun e w''=>e = .returned (.agg (arr .u8 ro))∧Below w'.heap.size w' w''):=Lib.hid (fun w' ad cp h1 h2=>Ev w' ad cp h1 h2)
 have HT:=Lib.hid hT
 obtain ⟨zn,hzn⟩:∃ zs:List Int,zs=List.replicate 32 0:=⟨_,rfl⟩
 have dx:Hid (∀ w,(zeroValue 23).run Tryd.prog w = .ok (.agg (arr .u8 zn)) w):=Lib.hid (by intro w;rw [hzn];exact zero_num w)
 have cB:Hid (zn.length=32):=Lib.hid (by rw [hzn];rfl)
 obtain ⟨zs,hzs⟩:∃ zs:List Int,zs=List.replicate 64 0:=⟨_,rfl⟩
 have HZzs:Hid (∀ w,(zeroValue 25).run Tryd.prog w = .ok (.agg (arr .u8 zs)) w):=Lib.hid (by intro w;rw [hzs];exact F8 w)
 have HLzs:Hid (zs.length=64):=Lib.hid (by rw [hzs];rfl)
 have HZS:Hid (zs=aW (List.replicate 64 0)):=Lib.hid (by rw [hzs,iZ])
 have bN:=Lib.hid (bM.four w (arr .u8 x0) (arr .u8 y0) (arr .u8 zn) (arr .u8 zs) 23 23 23 25)
 clear hzn hzs Ev hxs hys hx0 hy0 hro hso hT ha hb
 go_enter Tryd.func62, Tryd.ntmps62
 go_wp2_with (first|((with_reducible refine aS 4 ?_);refine aj rfl 23 rfl _ (dx.out _) ?_)|((with_reducible refine aS 5 ?_);refine aj rfl 25 rfl _ (HZzs.out _) ?_))
 go_loopw [6,7] (fun cv iv wr=>∃ (i c:Nat) (ss:List Nat),i≤33∧iv = .int .i64 i∧cv = .int .i64 c∧c≤1∧ss.length=64∧(∀ x∈ss,x < 256)∧(∀ j,i≤j→ss.getD j 0=0)∧val 256 (ss.take i)+256 ^ i * c=val 256 (xs.take i)+val 256 (ys.take i)∧bM w wr [(w.heap.size,arr .u8 x0, 23),(w.heap.size+1,arr .u8 y0, 23),(w.heap.size+1+1,arr .u8 zn, 23),(w.heap.size+1+1+1,arr .u8 (aW ss), 25)]) (fun _ iv _=>33 - (intOf iv).toNat)
 case atStart=>exact ⟨0,0,List.replicate 64 0,Nat.zero_le _,rfl,rfl,Nat.zero_le _,by simp,by simp,(fun k _=>by simp only [List.getD,List.getElem?_replicate];split <;> rfl),by simp [val],by rw [← HZS.out];exact bN.out⟩
 clear bN
 case round =>
 obtain ⟨i,c,ss,hi,rfl,rfl,hc,hsl,hsb,hsz,hv,hB⟩:=hrel
 by_cases hlt:i < 33
 ·have q2:=aN (hB.get 3 rfl) i (by rw [aH,hsl];omega)
  have q3:=aC (hB.get 3 rfl) i
  have x1:=dw XB.out (by decide) i
  have y1:=dw YB.out (by decide) i
  have st:=fun s c' hs=>Iy 256 i _ _ _ (xs.getD i 0) (ys.getD i 0) c s c' hv hs
  have vm:=fun s=>kr 256 ss i s (by omega)
  rw [← bS 256 xs i (by rw [XL.out];exact hlt),← bS 256 ys i (by rw [YL.out];exact hlt)] at st
  have xg:=XG.out i hlt
  have yg:=YG.out i hlt
  have q0:i < 32→wr.cell? ⟨w.heap.size,i,none⟩=some (.int .u8 ((xs.getD i 0:Nat):Int)):=fun e=>by
   rw [aN (hB.get 0 rfl) i (by rw [X0L.out];exact e),X0G.out,← xg,if_pos e]
  have q1:i < 32→wr.cell? ⟨w.heap.size+1,i,none⟩=some (.int .u8 ((ys.getD i 0:Nat):Int)):=fun e=>by
   rw [aN (hB.get 1 rfl) i (by rw [Y0L.out];exact e),Y0G.out,← yg,if_pos e]
  have xz:¬ i < 32→xs.getD i 0=0:=fun e=>by rw [← xg,if_neg e]
  have yz:¬ i < 32→ys.getD i 0=0:=fun e=>by rw [← yg,if_neg e]
  clear xg yg
  generalize xs.getD i 0=x at q0 x1 st xz
  generalize ys.getD i 0=y at q1 y1 st yz
  by_cases h32:i < 32
  ·skip
   have q0:=q0 h32
   have q1:=q1 h32
   have ha:=qB (x+y+c) (by omega)
   rw [show ((x+y+c:Nat):Int)=(c:Int)+(x:Int)+(y:Int) by omega] at ha
   have hst:=st ((x+y+c) % 256) ((x+y+c) / 256) (by omega)
   rw [← vm] at hst
   have hb1:=hB.cell 3 rfl i (.int .u8 (bits .and .i64 ((c:Int)+(x:Int)+(y:Int)) 255 % 256))
   have e2:(arr .u8 (aW ss)).setIfInBounds i (.int .u8 (bits .and .i64 ((c:Int)+(x:Int)+(y:Int)) 255 % 256))=arr .u8 (aW (ss.set i ((x+y+c) % 256))):=by rw [ha,show (((((x+y+c) % 256):Nat):Int) % 256)=((((x+y+c) % 256):Nat):Int) by omega,aY,← dn]
   have HB1:=Lib.hid (hb1.cast (l':=[(w.heap.size,arr .u8 x0, 23),(w.heap.size+1,arr .u8 y0, 23),(w.heap.size+1+1,arr .u8 zn, 23),(w.heap.size+1+1+1,arr .u8 (aW (ss.set i ((x+y+c) % 256))), 25)]) (by rw [← e2];rfl))
   have HST:=Lib.hid hst
   have HSL:Hid ((ss.set i ((x+y+c) % 256)).length=64):=Lib.hid (by rw [List.length_set,hsl])
   have Px:Hid (∀ z∈ss.set i ((x+y+c) % 256),z < 256):=Lib.hid (jC hsb i ((x+y+c) % 256) (Nat.mod_lt _ (by decide)))
   have wS:Hid (∀ j,i+1≤j→(ss.set i ((x+y+c) % 256)).getD j 0=0):=Lib.hid (by intro j hj;have e:=hsz j (by omega);simp only [List.getD] at e ⊢; rw [List.getElem?_set_ne (by omega)];exact e)
   clear hb1 e2 hst st vm hB hsl hsb hsz hv ha xz yz
   go_wp2_with fail
   go_region
   go_wp2_with fail
   go_roundw
   case rel=>exact ⟨i+1,((x+y+c) / 256),_,by omega,by go_num,by go_num,by omega,HSL.out,Px.out,wS.out,HST.out,HB1.out.drew⟩
   case measure=>simp [intOf];omega
  ·skip
   obtain rfl:=xz h32
   obtain rfl:=yz h32
   have ha:=qB c (by omega)
   have hst:=st (c % 256) (c / 256) (by omega)
   rw [← vm] at hst
   have hb1:=hB.cell 3 rfl i (.int .u8 (bits .and .i64 (c:Int) 255 % 256))
   have e2:(arr .u8 (aW ss)).setIfInBounds i (.int .u8 (bits .and .i64 (c:Int) 255 % 256))=arr .u8 (aW (ss.set i (c % 256))):=by rw [ha,show ((((c % 256):Nat):Int) % 256)=(((c % 256):Nat):Int) by omega,aY,← dn]
   have HB1:=Lib.hid (hb1.cast (l':=[(w.heap.size,arr .u8 x0, 23),(w.heap.size+1,arr .u8 y0, 23),(w.heap.size+1+1,arr .u8 zn, 23),(w.heap.size+1+1+1,arr .u8 (aW (ss.set i (c % 256))), 25)]) (by rw [← e2];rfl))
   have HST:=Lib.hid hst
   have HSL:Hid ((ss.set i (c % 256)).length=64):=Lib.hid (by rw [List.length_set,hsl])
   have Px:Hid (∀ z∈ss.set i (c % 256),z < 256):=Lib.hid (jC hsb i (c % 256) (Nat.mod_lt _ (by decide)))
   have wS:Hid (∀ j,i+1≤j→(ss.set i (c % 256)).getD j 0=0):=Lib.hid (by intro j hj;have e:=hsz j (by omega);simp only [List.getD] at e ⊢; rw [List.getElem?_set_ne (by omega)];exact e)
   clear hb1 e2 hst st vm hB hsl hsb hsz hv ha xz yz q0 q1
   go_wp2_with fail
   go_roundw
   case rel=>exact ⟨i+1,(c / 256),_,by omega,by go_num,by go_num,by omega,HSL.out,Px.out,wS.out,HST.out,HB1.out⟩
   case measure=>simp [intOf];omega
 ·obtain rfl:i=33:=by omega
  rw [List.take_of_length_le (Nat.le_of_eq XL.out),List.take_of_length_le (Nat.le_of_eq YL.out),XV.out,YV.out] at hv
  have hvt:=TN 64 33 ss hsl (by decide) hsz
  have hab:=HAB.out
  have hc0:c=0:=by
   rcases (show c=0∨c=1 by omega) with h|h
   ·exact h
   ·subst h;omega
  subst hc0
  rw [Nat.mul_zero,Nat.add_zero,← hvt] at hv
  have hd:=pG 256 (by decide) 64 (a+b) ss hsl hsb hv
  rw [hd,← HSO.out] at hB
  have HB:=Lib.hid hB
  clear hB hv hvt hab hd hsl hsb hsz hc
  go_wp2_with (first|((with_reducible show Calls _ 84 _ _ _);go_at_call 84; refine (Sq.out _ (Gq (HB.out.get 3 rfl) 64 HS64.out) (HT.out.below HB.out.below)).mono ?_;rintro e w6 ⟨rfl,hb6⟩;have kQ:=Lib.hid (HB.out.kept hb6);clear hb6)|((with_reducible refine aT 4 ?_);refine ah rfl 23 _ _ rfl (w.heap.size+1+1) _ _ 23 (kQ.out.get 2 rfl) rfl rfl (ay _ _ IC.out cB.out) (bE IC.out) (av _ _) ?_;intro w7 dV iA kZ;have eX:=Lib.hid (kQ.out.put 2 rfl iA dV);clear dV iA kZ))
  (try simp only [Exit.inBlock,Exit.then])
  refine bodyPost_ret (results_cell_row rfl _ _ (w.heap.size+1+1) 23 _ (0,0) _ rfl (eX.out.get 2 rfl) Tryd.underlying23 rfl (bE IC.out)) rfl ?_
  exact ⟨rfl,eX.out.below⟩
end Go.Proofs.YthdgbgleklkaiaaDoor.Rd
