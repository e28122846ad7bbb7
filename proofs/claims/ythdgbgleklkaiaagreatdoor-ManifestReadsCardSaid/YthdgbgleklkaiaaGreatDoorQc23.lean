/- The document's Reduce: The document's AddQ: The document's MulQ: The d. Condition: as each theorem says. -/

import Derived.Test.YthdgbgleklkaiaaGreatDoorQc14
import Derived.Test.YthdgbgleklkaiaaGreatDoorQc22
open Go.Lib renaming hid→abC
open List renaming replicate→abD,take_of_length_le→abF,getD→abH,length_set→abL,getElem?_set_ne→abM,getElem?_replicate→abZ,take_zero→acD
open Nat renaming zero_le→abE,le_of_eq→abI,mod_lt→abJ,mod_eq_of_lt→abK,lt_of_lt_of_le→abN,pow_add→abO,mul_zero→abP,add_zero→abQ,and_two_pow_sub_one_eq_mod→abR,mul_le_mul_left→abY
open BitVec renaming ofInt→abG,ofInt_natCast→abS,toNat_ofNat→abT,toNat_and→abU
open Int renaming natCast_add→acE
set_option linter.unusedSimpArgs false
set_option linter.unusedVariables false
set_option maxRecDepth 100000
set_option maxHeartbeats 16000000
namespace Go.Proofs.YthdgbgleklkaiaaGreatDoor.Rd
open Go.RowKit Lm Sc
theorem and1i (y:Nat) (h:y < 9223372036854775808):bits .and .i64 (y:Int) 1=((y % 2:Nat):Int):=by
 have e:y &&& 1=y % 2:=abR y 1
 have h1:(abG 64 (y:Int)).toNat=y:=by rw [abS,abT];exact abK (by omega)
 have h2:(abG 64 (1:Int)).toNat=1:=by decide
 show IntKind.i64.wrap ((abG 64 (y:Int) &&& abG 64 (1:Int)).toNat:Int)=_
 rw [abU,h1,h2,e,IntKind.wrap_i64]
 omega
theorem qF (x:Nat) (hx:x < 9223372036854775808):bits .and .i64 (x:Int) 255=((x % 256:Nat):Int):=by
 have e:x &&& 255=x % 256:=abR x 8
 have h1:(abG 64 (x:Int)).toNat=x:=by rw [abS,abT];exact abK (by omega)
 have h2:(abG 64 (255:Int)).toNat=255:=by decide
 show IntKind.i64.wrap ((abG 64 (x:Int) &&& abG 64 (255:Int)).toNat:Int)=_
 rw [abU,h1,h2,e,IntKind.wrap_i64]
 omega
theorem Ns (V k:Nat) (hk:k < 512):∃ y:Nat,(aW (bD 256 64 V)).getD (k / 8) 0=y∧y < 256∧bits .and .i64 ((y:Int) / 2 ^ (k % 8)) 1=((V / 2 ^ k % 2:Nat):Int):=by
 refine ⟨V / 256 ^ (k / 8) % 256,by rw [bH,dn _ _ _ _ (by omega)],abJ _ (by decide),?_⟩
 have e1:((V / 256 ^ (k / 8) % 256:Nat):Int) / 2 ^ (k % 8)=((V / 256 ^ (k / 8) % 256 / 2 ^ (k % 8):Nat):Int):=by
  rw [Int.natCast_ediv,Int.natCast_pow];rfl
 rw [e1,and1i _ (Nat.lt_of_le_of_lt (Nat.div_le_self _ _) (Nat.lt_trans (abJ _ (by decide)) (by decide))),JN]
theorem Nk:abD 33 (0:Int)=aW (bD 256 33 0):=by decide +kernel
def Cw (N i:Nat):List Int:=tb 32 fun j=>if j < i then ((N / 256 ^ j % 256:Nat):Int) else 0
theorem Tj (N:Nat):abD 32 0=Cw N 0:=by
 rw [sN]
 exact cO _ _ _ fun j _=>by rw [if_neg (by omega)]
theorem Tm (N i:Nat):(Cw N i).set i ((N / 256 ^ i % 256:Nat):Int)=Cw N (i+1):=by
 rw [Cw,iP]
 refine cO _ _ _ fun j _=>?_
 by_cases e:j=i
 ·subst e;rw [if_pos rfl,if_pos (show j < j+1 by omega)]
 ·rw [if_neg e]
  by_cases e3:j < i
  ·rw [if_pos e3,if_pos (show j < i+1 by omega)]
  ·rw [if_neg e3,if_neg (show ¬ j < i+1 by omega)]
theorem Xl (N:Nat):Cw N 32=aW (bD 256 32 N):=by
 rw [CZ 32 (aW (bD 256 32 N)) (by rw [aG,aK])]
 exact cO _ _ _ fun j hj=>by rw [if_pos hj,bH,dn _ _ _ _ hj]
theorem dbl_lt (P b:Nat) (hP:P < q) (hb:b≤1):2 * P+b < 256 ^ 33:=by
 have hq:2 * q < 256 ^ 33:=by decide +kernel
 omega
theorem q8 (sa:Option Addr) (cp V:Nat) (w:World) (hs:Src w sa 64 (aW (bD 256 64 V))) (hV:V < 2 ^ 512) (hT:ny w) :
  Calls Tryz.prog 162 #[.slice sa 64 cp] w fun e w'=>e = .returned (.agg (arr .u8 (aW (bD 256 32 (V % q)))))∧Below w.heap.size w w':=by
 obtain ⟨ad,rfl, -⟩:=hs.cell 0 (by decide)
 have hcell:∀ i,i < 64→w.cell? (ad.add i)=some (.int .u8 ((aW (bD 256 64 V)).getD i 0)):=fun i hi=>by
  obtain ⟨a,h1,h2⟩:=hs.cell i hi
  cases h1
  exact h2
 have HCELL:=abC hcell
 have HT:=abC hT
 have HV:=abC hV
 obtain ⟨ro,hro⟩:∃ r,r=aW (bD 256 32 (V % q)):=⟨_,rfl⟩
 have HRO:Hid (Cw (V % q) 32=ro):=abC (by rw [hro];exact Xl _)
 have JW:Hid (ro.length=32):=abC (by rw [hro,aG,aK])
 rw [← hro]
 obtain ⟨zn,hzn,dB,dw⟩:=zN zero_num
 obtain ⟨zr,hzr,HZzr,HLzr⟩:=zN Ph
 have HZ0:Hid (zr=aW (bD 256 33 0)):=abC (by rw [hzr];exact Nk)
 have HZN:Hid (zn=Cw (V % q) 0):=abC (by rw [hzn];exact Tj _)
 have bW:=abC (bO.two w (arr .u8 zn) (arr .i64 zr) 25 230)
 clear hzn hzr hs hcell hT hV hro
 go_enter Tryz.func162, Tryz.ntmps162
 go_upto_region 4 with (first|((with_reducible refine aS 2 ?_);refine ah rfl 25 rfl _ (dB.out _) ?_)|((with_reducible refine aS 3 ?_);refine ah rfl 230 rfl _ (HZzr.out _) ?_))
 (try simp only [World.size_alloc,Act.put,sA,sZ,sS])
 generalize w.heap.size+1=g3 at bW ⊢
 generalize ((w.alloc (.cells (arr .u8 zn) 25)).alloc (.cells (arr .i64 zr) 230))=wb at bW ⊢
 go_wp2_with fail
 go_loopw [4] (fun v wr=>∃ n:Nat,n≤512∧v = .int .i64 (511 - (n:Int))∧bO w wr [(w.heap.size,arr .u8 zn, 25),(g3,arr .i64 (aW (bD 256 33 (RI V (512 - n)))), 230)]) (fun v _=>(intOf v+1).toNat)
 case atStart=>exact ⟨0,abE _,rfl,by rw [show 512 - 0=512 from rfl,upq_top V 512 HV.out,← HZ0.out];exact bW.out⟩
 case round =>
 obtain ⟨n,hn,rfl,hB⟩:=hrel
 by_cases hlt:n < 512
 ·obtain ⟨i,hi⟩:∃ i:Nat,i+n=511:=⟨511 - n,by omega⟩
  have hz:(511:Int) - (n:Int)=(i:Int):=by omega
  have hi2:i < 512:=by omega
  obtain ⟨y,hy,hy2,hbit⟩:=Ns V i hi2
  have q0:=eD hB.below (HCELL.out (i / 8) (by omega))
  rw [hy] at q0
  rw [show 512 - n=i+1 by omega] at hB
  rw [hz]
  have hps:=fun m=>VA V i m
  have hpl:=VD V (i+1)
  generalize RI V (i+1)=P at hB hps hpl
  have hbl:V / 2 ^ i % 2≤1:=by omega
  generalize V / 2 ^ i % 2=b at hbit hps hbl
  obtain ⟨rs,hrs⟩:∃ r,r=bD 256 33 P:=⟨_,rfl⟩
  have hdl:=dbl_lt P b hpl hbl
  have rl:rs.length=33:=by rw [hrs,aK]
  have rb:∀ x∈rs,x < 256:=by rw [hrs];exact iw 256 (by decide) _ _
  have rv:val 256 rs=P:=by rw [hrs,fA];exact abK (by omega)
  rw [← hrs] at hB
  have HB:=abC hB
  have HI:=abC hi
  have Oe:=abC hps
  have yQ:=abC hdl
  have RL:=abC rl
  have RB:=abC rb
  have RV:=abC rv
  have q9:0≤(i:Int):=by omega
  clear hB hy hz hi hps hpl hrs hdl rl rb rv
  go_wp2_with fail
  clear q0 hbit
  go_loopw [5,6] (fun cv kv wr2=>∃ (k c:Nat) (us:List Nat),k≤33∧kv = .int .i64 k∧cv = .int .i64 c∧c≤1∧us.length=33∧(∀ x∈us,x < 256)∧(∀ j,k≤j→us.getD j 0=rs.getD j 0)∧val 256 (us.take k)+256 ^ k * c=val 256 (rs.take k)+(val 256 (rs.take k)+b)∧bO w wr2 [(w.heap.size,arr .u8 zn, 25),(g3,arr .i64 (aW us), 230)]) (fun _ kv _=>33 - (intOf kv).toNat)
  case atStart=>exact ⟨0,b,rs,abE _,rfl,rfl,hbl,RL.out,RB.out,(fun _ _=>rfl),by simp [val],HB.out⟩
  case round =>
   obtain ⟨k,c,us,hk,rfl,rfl,hc,hul,hub,hur,huv,hU⟩:=hrel
   by_cases hlk:k < 33
   ·have q2:=aP (hU.get 1 rfl) k (by rw [aG,hul];exact hlk)
    have q3:=aC (hU.get 1 rfl) k
    rw [bH,hur k (Nat.le_refl _)] at q2
    have r1:=dA RB.out (by decide) k
    have st:=fun s c' hs=>JU 256 k _ _ _ (rs.getD k 0) (rs.getD k 0) c s c' huv hs
    have vm:=fun s=>kI 256 us k s (by omega)
    have vr:=bT 256 rs k (by rw [RL.out];exact hlk)
    generalize rs.getD k 0=r at q2 r1 st vr
    have hst:=st ((2 * r+c) % 256) ((2 * r+c) / 256) (by omega)
    rw [← vm] at hst
    have XZ:val 256 ((us.set k ((2 * r+c) % 256)).take (k+1))+256 ^ (k+1) * ((2 * r+c) / 256)=val 256 (rs.take (k+1))+(val 256 (rs.take (k+1))+b):=by rw [hst,vr];omega
    have ha:=qF (2 * r+c) (by omega)
    rw [show ((2 * r+c:Nat):Int)=2 * (r:Int)+(c:Int) by omega] at ha
    have hb1:=hU.cell 1 rfl k (.int .i64 (bits .and .i64 (2 * (r:Int)+(c:Int)) 255))
    have e2:(arr .i64 (aW us)).setIfInBounds k (.int .i64 (bits .and .i64 (2 * (r:Int)+(c:Int)) 255))=arr .i64 (aW (us.set k ((2 * r+c) % 256))):=by rw [ha,bq,← cZ]
    have HU1:=abC (hb1.cast (l':=[(w.heap.size,arr .u8 zn, 25),(g3,arr .i64 (aW (us.set k ((2 * r+c) % 256))), 230)]) (by rw [← e2];rfl))
    have HST:=abC XZ
    have Ke:Hid ((us.set k ((2 * r+c) % 256)).length=33):=abC (by rw [abL,hul])
    have HUB:Hid (∀ x∈us.set k ((2 * r+c) % 256),x < 256):=abC (jN hub _ _ (by omega))
    have HUR:Hid (∀ j,k+1≤j→(us.set k ((2 * r+c) % 256)).getD j 0=rs.getD j 0):=abC (by intro j hj;have e:=hur j (by omega);simp only [abH] at e ⊢; rw [abM (by omega)];exact e)
    clear hb1 e2 hst XZ st vm vr ha hU hul hub hur huv
    go_wp2_with fail
    go_roundw
    case rel=>exact ⟨k+1,(2 * r+c) / 256,_,by omega,by go_num,by go_num,by omega,Ke.out,HUB.out,HUR.out,HST.out,HU1.out⟩
    case measure=>simp [intOf];omega
   ·obtain rfl:k=33:=by omega
    rw [abF (abI hul),abF (abI RL.out),RV.out] at huv
    have hlv:=qW 256 us hub
    rw [hul] at hlv
    have hdl:=yQ.out
    have hc0:c=0:=by
     rcases (show c=0∨c=1 by omega) with h|h
     ·exact h
     ·subst h;omega
    subst hc0
    have hdig:=nV 256 (by decide) 33 (2 * P+b) us hul hub (by omega)
    have hl:=fun w h=>Xn (2 * P+b) w hdl h
    rw [Oe.out _ rfl,← hdig] at hl
    have hul':(aW us).length=33:=by rw [aG,hul]
    have HTb:=abC (HT.out.below hU.below)
    obtain ⟨u0,hu0⟩:∃ x,x=aW us:=⟨_,rfl⟩
    rw [← hu0] at hU hl hul'
    obtain ⟨v0,hv0⟩:∃ x,x=aW (bD 256 33 (RI V i)):=⟨_,rfl⟩
    rw [← hv0] at hl
    have HL:=abC hl
    have Ke:=abC hul'
    have HU:=abC hU
    have vU:Hid (v0.length=33):=abC (by rw [hv0,aG,aK])
    have HV0:=abC hv0
    clear hU hul hub hur huv hlv hdl hc hdig hl hul' hu0 hv0 HB
    go_wp2_with (first|((with_reducible refine aS 50 ?_);refine lL rfl rfl (HU.out.get 1 rfl) rfl (aj _ _) Tryz.underlying230 rfl (Pv Ke.out) ?_)|((with_reducible show Calls _ 197 _ _ _);go_at_call 197; refine lC (HL.out _ HTb.out) HU ?_;intro w6 HU6)|((with_reducible refine aT 3 ?_);refine lS rfl rfl HU6 1 rfl rfl rfl (av _ _ vU.out Ke.out) (Da vU.out) (ak _ _) ?_;intro w7 HU7))
    go_roundw
    case rel =>
     have e:=HI.out
     exact ⟨n+1,by omega,by congr 1;omega,by rw [show 512 - (n+1)=i by omega,← HV0.out];exact HU7.out⟩
    case measure=>simp [intOf]
 ·obtain rfl:n=512:=by omega
  rw [show 512 - 512=0 from rfl,Vz] at hB
  have hz:(511:Int) - ((512:Nat):Int) = -1:=by omega
  rw [hz]
  have rl:(aW (bD 256 33 (V % q))).length=33:=by rw [aG,aK]
  have rg:∀ j,j < 32→(aW (bD 256 33 (V % q))).getD j 0=((V % q / 256 ^ j % 256:Nat):Int):=fun j hj=>by rw [bH,dn _ _ _ _ (by omega)]
  have HB:=abC (hB.alloc (arr .u8 zn) 25)
  generalize aW (bD 256 33 (V % q))=r0 at rl rg HB
  have RL:=abC rl
  have RG:=abC rg
  clear hz hB rl rg bW
  go_wp2_with (first|((with_reducible refine aS 8 ?_);refine ah rfl 25 rfl _ (dB.out _) ?_))
  generalize wr.heap.size=gn at HB ⊢
  go_loopw [9] (fun v wq=>∃ j:Nat,j≤32∧v = .int .i64 j∧∃ os:List Int,os=Cw (V % q) j∧bO w wq [(w.heap.size,arr .u8 zn, 25),(g3,arr .i64 r0, 230),(gn,arr .u8 os, 25)]) (fun v _=>32 - (intOf v).toNat)
  case atStart=>exact ⟨0,abE _,rfl,_,HZN.out,HB.out⟩
  case round =>
   obtain ⟨j,hj,rfl,os,hos,hQ⟩:=hrel
   have ol:os.length=32:=by rw [hos];exact dX _ _
   by_cases hlo:j < 32
   ·have q0:=aP (hQ.get 1 rfl) j (by rw [RL.out];omega)
    have q2:=aP (hQ.get 2 rfl) j (by rw [ol];omega)
    have q3:=aC (hQ.get 2 rfl) j
    rw [RG.out j hlo] at q0
    have st:=Tm (V % q) j
    have hz2:V % q / 256 ^ j % 256 < 256:=abJ _ (by decide)
    generalize V % q / 256 ^ j % 256=z at q0 st hz2
    have hb1:=hQ.cell 2 rfl j (.int .u8 (z:Int))
    have e2:(arr .u8 os).setIfInBounds j (.int .u8 (z:Int))=arr .u8 (Cw (V % q) (j+1)):=by rw [bq,hos,st]
    have HQ1:=abC (hb1.cast (l':=[(w.heap.size,arr .u8 zn, 25),(g3,arr .i64 r0, 230),(gn,arr .u8 (Cw (V % q) (j+1)), 25)]) (by rw [← e2];rfl))
    clear hb1 e2 hos hQ st ol
    go_wp2_with fail
    go_roundw
    case rel=>exact ⟨j+1,by omega,by go_num,_,rfl,HQ1.out⟩
    case measure=>simp [intOf];omega
   ·obtain rfl:j=32:=by omega
    rw [HRO.out] at hos
    subst hos
    have HQ:=abC hQ
    have HOL:=abC ol
    clear hQ ol HB
    go_wp2_with (first|((with_reducible refine aS 62 ?_);refine lL rfl rfl (HQ.out.get 2 rfl) rfl (aj _ _) Tryz.underlying25 rfl (bU HOL.out) ?_)|((with_reducible refine aT 2 ?_);refine lS rfl rfl HQ 0 rfl rfl rfl (av _ _ HOL.out dw.out) (bG HOL.out) (ak _ _) ?_;intro w8 HQ8))
    (try simp only [Exit.inBlock,Exit.then])
    refine bodyPost_ret (results_cell_row rfl _ _ (w.heap.size) 25 _ (0,0) _ rfl (HQ8.out.get 0 rfl) Tryz.underlying25 rfl (bG HOL.out)) rfl ?_
    exact ⟨rfl,HQ8.out.below⟩
end Go.Proofs.YthdgbgleklkaiaaGreatDoor.Rd
namespace Go.Proofs.YthdgbgleklkaiaaGreatDoor.Rd
open Go.RowKit Lm Sc
theorem Ic (w:World):(zeroValue 26).run Tryz.prog w = .ok (.agg (arr .u8 (abD 64 0))) w:=by kernel_rfl
theorem Iw {w:World} {g:Nat} {xs:List Int} {t:TypeId} {fr:Nat×Nat} (h:w.heap[g]? = some (.cells (arr .u8 xs) t fr)) (m:Nat) (hm:xs.length=m):Src w (some ⟨g,0,none⟩) m xs :=
 nK h (by rw [bN,Nat.mul_one,abF (by rw [List.length_map];exact Nat.le_refl _)]) hm
theorem lt_pow {a b:Nat} (ha:a < 256 ^ 32) (hb:b < 256 ^ 32) (n:Nat) (hn:257≤n):a+b < 2 ^ n:=by
 obtain ⟨k,rfl⟩:∃ k,n=256+(k+1):=⟨n - 257,by omega⟩
 rw [abO]
 have h2:2≤2 ^ (k+1):=by
  rw [Nat.pow_succ]
  have:=Nat.one_le_two_pow (n:=k)
  omega
 exact abN (Nat.add_lt_add ha hb) (Nat.le_trans (show 256 ^ 32+256 ^ 32≤2 ^ 256 * 2 by decide) (abY _ h2))
theorem Ba (A k:Nat) (hA:A < 256 ^ 32) (hk:k < 33):(bD 256 33 A).getD k 0=if k < 32 then (bD 256 32 A).getD k 0 else 0:=by
 rw [dn _ _ _ _ hk]
 split
 ·rename_i h;rw [dn _ _ _ _ h]
 ·obtain rfl:k=32:=by omega
  rw [Nat.div_eq_of_lt hA]
theorem Vy (n k:Nat) (xs:List Nat) (hl:xs.length=n) (hk:k≤n) (hz:∀ j,k≤j→xs.getD j 0=0):val 256 xs=val 256 (xs.take k):=by
 have e:xs=xs.take k ++ xs.drop k:=(List.take_append_drop k xs).symm
 have hd:xs.drop k=abD (n - k) 0:=by
  apply List.ext_getElem
  ·simp [hl]
  ·intro i h1 h2
   have:=hz (k+i) (by omega)
   simp only [List.length_drop] at h1
   rw [abH,List.getElem?_eq_getElem (by omega)] at this
   simpa using this
 rw [e,val_append,hd,mI,abP,abQ,← hd,← e]
theorem Z9 (a b:Nat) (w:World) (ha:a < 256 ^ 32) (hb:b < 256 ^ 32) (hT:ny w) :
  Calls Tryz.prog 116 #[.agg (arr .u8 (aW (bD 256 32 a))), .agg (arr .u8 (aW (bD 256 32 b)))] w fun e w'=>e = .returned (.agg (arr .u8 (aW (bD 256 32 ((a+b) % q)))))∧Below w.heap.size w w':=by
 have FX:=fun w' ad cp (hs:Src w' ad 64 (aW (bD 256 64 (a+b)))) hT'=>q8 ad cp (a+b) w' hs (lt_pow ha hb 512 (by decide)) hT'
 obtain ⟨xs,hxs⟩:∃ r,r=bD 256 33 a:=⟨_,rfl⟩
 obtain ⟨ys,hys⟩:∃ r,r=bD 256 33 b:=⟨_,rfl⟩
 have XL:Hid (xs.length=33):=abC (by rw [hxs,aK])
 have YL:Hid (ys.length=33):=abC (by rw [hys,aK])
 have XB:Hid (∀ x∈xs,x < 256):=abC (by rw [hxs];exact iw 256 (by decide) _ _)
 have YB:Hid (∀ x∈ys,x < 256):=abC (by rw [hys];exact iw 256 (by decide) _ _)
 have XV:Hid (val 256 xs=a):=abC (by rw [hxs,fA];exact abK (abN ha (by decide)))
 have YV:Hid (val 256 ys=b):=abC (by rw [hys,fA];exact abK (abN hb (by decide)))
 have XG:Hid (∀ k,k < 33→(if k < 32 then (bD 256 32 a).getD k 0 else 0)=xs.getD k 0):=abC (fun k h=>by rw [hxs];exact (Ba a k ha h).symm)
 have YG:Hid (∀ k,k < 33→(if k < 32 then (bD 256 32 b).getD k 0 else 0)=ys.getD k 0):=abC (fun k h=>by rw [hys];exact (Ba b k hb h).symm)
 have HAB:Hid (a+b < 256 ^ 33):=abC (abN (Nat.add_lt_add ha hb) (by decide))
 obtain ⟨x0,hx0⟩:∃ r,r=aW (bD 256 32 a):=⟨_,rfl⟩
 obtain ⟨y0,hy0⟩:∃ r,r=aW (bD 256 32 b):=⟨_,rfl⟩
 have X0L:Hid (x0.length=32):=abC (by rw [hx0,aG,aK])
 have Y0L:Hid (y0.length=32):=abC (by rw [hy0,aG,aK])
 have X0G:Hid (∀ k,x0.getD k 0=(((bD 256 32 a).getD k 0:Nat):Int)):=abC (fun k=>by rw [hx0,bH])
 have Y0G:Hid (∀ k,y0.getD k 0=(((bD 256 32 b).getD k 0:Nat):Int)):=abC (fun k=>by rw [hy0,bH])
 rw [← hx0,← hy0]
 obtain ⟨ro,hro⟩:∃ r,r=aW (bD 256 32 ((a+b) % q)):=⟨_,rfl⟩
 have JW:Hid (ro.length=32):=abC (by rw [hro,aG,aK])
 rw [← hro] at FX ⊢
 obtain ⟨so,hso⟩:∃ r,r=aW (bD 256 64 (a+b)):=⟨_,rfl⟩
 have HS64:Hid (so.length=64):=abC (by rw [hso,aG,aK])
 have HSO:=abC hso
 rw [← hso] at FX
 have UL:Hid (∀ (w':World) {ad:Option Addr} {cp:Nat},Src w' ad 64 so→ny w'→Calls Tryz.prog 162 #[.slice ad 64 cp] w' fun e w''=>e = .returned (.agg (arr .u8 ro))∧Below w'.heap.size w' w''):=abC (fun w' ad cp h1 h2=>FX w' ad cp h1 h2)
 have HT:=abC hT
 obtain ⟨zn,hzn,dB,dw⟩:=zN zero_num
 obtain ⟨zs,hzs,HZzs,HLzs⟩:=zN Ic
 have HZS:Hid (zs=aW (abD 64 0)):=abC (by rw [hzs,iM])
 have bW:=abC (bO.four w (arr .u8 x0) (arr .u8 y0) (arr .u8 zn) (arr .u8 zs) 25 25 25 26)
 clear hzn hzs FX hxs hys hx0 hy0 hro hso hT ha hb
 go_enter Tryz.func116, Tryz.ntmps116
 go_wp2_with (first|((with_reducible refine aS 4 ?_);refine ah rfl 25 rfl _ (dB.out _) ?_)|((with_reducible refine aS 5 ?_);refine ah rfl 26 rfl _ (HZzs.out _) ?_))
 go_loopw [6,7] (fun cv iv wr=>∃ (i c:Nat) (ss:List Nat),i≤33∧iv = .int .i64 i∧cv = .int .i64 c∧c≤1∧ss.length=64∧(∀ x∈ss,x < 256)∧(∀ j,i≤j→ss.getD j 0=0)∧val 256 (ss.take i)+256 ^ i * c=val 256 (xs.take i)+val 256 (ys.take i)∧bO w wr [(w.heap.size,arr .u8 x0, 25),(w.heap.size+1,arr .u8 y0, 25),(w.heap.size+1+1,arr .u8 zn, 25),(w.heap.size+1+1+1,arr .u8 (aW ss), 26)]) (fun _ iv _=>33 - (intOf iv).toNat)
 case atStart=>exact ⟨0,0,abD 64 0,abE _,rfl,rfl,abE _,by simp,by simp,(fun k _=>by simp only [abH,abZ];split <;> rfl),by simp [val],by rw [← HZS.out];exact bW.out⟩
 clear bW
 case round =>
 obtain ⟨i,c,ss,hi,rfl,rfl,hc,hsl,hsb,hsz,hv,hB⟩:=hrel
 by_cases hlt:i < 33
 ·have q2:=aP (hB.get 3 rfl) i (by rw [aG,hsl];omega)
  have q3:=aC (hB.get 3 rfl) i
  have x1:=dA XB.out (by decide) i
  have y1:=dA YB.out (by decide) i
  have st:=fun s c' hs=>JU 256 i _ _ _ (xs.getD i 0) (ys.getD i 0) c s c' hv hs
  have vm:=fun s=>kI 256 ss i s (by omega)
  rw [← bT 256 xs i (by rw [XL.out];exact hlt),← bT 256 ys i (by rw [YL.out];exact hlt)] at st
  have xg:=XG.out i hlt
  have yg:=YG.out i hlt
  have q0:i < 32→wr.cell? ⟨w.heap.size,i,none⟩=some (.int .u8 ((xs.getD i 0:Nat):Int)):=fun e=>by
   rw [aP (hB.get 0 rfl) i (by rw [X0L.out];exact e),X0G.out,← xg,if_pos e]
  have q1:i < 32→wr.cell? ⟨w.heap.size+1,i,none⟩=some (.int .u8 ((ys.getD i 0:Nat):Int)):=fun e=>by
   rw [aP (hB.get 1 rfl) i (by rw [Y0L.out];exact e),Y0G.out,← yg,if_pos e]
  have xz:¬ i < 32→xs.getD i 0=0:=fun e=>by rw [← xg,if_neg e]
  have yz:¬ i < 32→ys.getD i 0=0:=fun e=>by rw [← yg,if_neg e]
  clear xg yg
  generalize xs.getD i 0=x at q0 x1 st xz
  generalize ys.getD i 0=y at q1 y1 st yz
  by_cases h32:i < 32
  ·skip
   have q0:=q0 h32
   have q1:=q1 h32
   have ha:=qF (x+y+c) (by omega)
   rw [show ((x+y+c:Nat):Int)=(c:Int)+(x:Int)+(y:Int) by omega] at ha
   have hst:=st ((x+y+c) % 256) ((x+y+c) / 256) (by omega)
   rw [← vm] at hst
   have hb1:=hB.cell 3 rfl i (.int .u8 (bits .and .i64 ((c:Int)+(x:Int)+(y:Int)) 255 % 256))
   have e2:(arr .u8 (aW ss)).setIfInBounds i (.int .u8 (bits .and .i64 ((c:Int)+(x:Int)+(y:Int)) 255 % 256))=arr .u8 (aW (ss.set i ((x+y+c) % 256))):=by rw [ha,show (((((x+y+c) % 256):Nat):Int) % 256)=((((x+y+c) % 256):Nat):Int) by omega,bq,← cZ]
   have HB1:=abC (hb1.cast (l':=[(w.heap.size,arr .u8 x0, 25),(w.heap.size+1,arr .u8 y0, 25),(w.heap.size+1+1,arr .u8 zn, 25),(w.heap.size+1+1+1,arr .u8 (aW (ss.set i ((x+y+c) % 256))), 26)]) (by rw [← e2];rfl))
   have HST:=abC hst
   have HSL:Hid ((ss.set i ((x+y+c) % 256)).length=64):=abC (by rw [abL,hsl])
   have yM:Hid (∀ z∈ss.set i ((x+y+c) % 256),z < 256):=abC (jN hsb i ((x+y+c) % 256) (abJ _ (by decide)))
   have Bv:Hid (∀ j,i+1≤j→(ss.set i ((x+y+c) % 256)).getD j 0=0):=abC (by intro j hj;have e:=hsz j (by omega);simp only [abH] at e ⊢; rw [abM (by omega)];exact e)
   clear hb1 e2 hst st vm hB hsl hsb hsz hv ha xz yz
   go_wp2_with fail
   go_region
   go_wp2_with fail
   go_roundw
   case rel=>exact ⟨i+1,((x+y+c) / 256),_,by omega,by go_num,by go_num,by omega,HSL.out,yM.out,Bv.out,HST.out,HB1.out.drew⟩
   case measure=>simp [intOf];omega
  ·skip
   obtain rfl:=xz h32
   obtain rfl:=yz h32
   have ha:=qF c (by omega)
   have hst:=st (c % 256) (c / 256) (by omega)
   rw [← vm] at hst
   have hb1:=hB.cell 3 rfl i (.int .u8 (bits .and .i64 (c:Int) 255 % 256))
   have e2:(arr .u8 (aW ss)).setIfInBounds i (.int .u8 (bits .and .i64 (c:Int) 255 % 256))=arr .u8 (aW (ss.set i (c % 256))):=by rw [ha,show ((((c % 256):Nat):Int) % 256)=(((c % 256):Nat):Int) by omega,bq,← cZ]
   have HB1:=abC (hb1.cast (l':=[(w.heap.size,arr .u8 x0, 25),(w.heap.size+1,arr .u8 y0, 25),(w.heap.size+1+1,arr .u8 zn, 25),(w.heap.size+1+1+1,arr .u8 (aW (ss.set i (c % 256))), 26)]) (by rw [← e2];rfl))
   have HST:=abC hst
   have HSL:Hid ((ss.set i (c % 256)).length=64):=abC (by rw [abL,hsl])
   have yM:Hid (∀ z∈ss.set i (c % 256),z < 256):=abC (jN hsb i (c % 256) (abJ _ (by decide)))
   have Bv:Hid (∀ j,i+1≤j→(ss.set i (c % 256)).getD j 0=0):=abC (by intro j hj;have e:=hsz j (by omega);simp only [abH] at e ⊢; rw [abM (by omega)];exact e)
   clear hb1 e2 hst st vm hB hsl hsb hsz hv ha xz yz q0 q1
   go_wp2_with fail
   go_roundw
   case rel=>exact ⟨i+1,(c / 256),_,by omega,by go_num,by go_num,by omega,HSL.out,yM.out,Bv.out,HST.out,HB1.out⟩
   case measure=>simp [intOf];omega
 ·obtain rfl:i=33:=by omega
  rw [abF (abI XL.out),abF (abI YL.out),XV.out,YV.out] at hv
  have hvt:=Vy 64 33 ss hsl (by decide) hsz
  have hab:=HAB.out
  have hc0:c=0:=by
   rcases (show c=0∨c=1 by omega) with h|h
   ·exact h
   ·subst h;omega
  subst hc0
  rw [abP,abQ,← hvt] at hv
  have hd:=nV 256 (by decide) 64 (a+b) ss hsl hsb hv
  rw [hd,← HSO.out] at hB
  have HB:=abC hB
  clear hB hv hvt hab hd hsl hsb hsz hc
  go_wp2_with (first|((with_reducible show Calls _ 162 _ _ _);go_at_call 162; refine lC (UL.out _ (Iw (HB.out.get 3 rfl) 64 HS64.out) (HT.out.below HB.out.below)) HB ?_;intro w6 mH)|((with_reducible refine aT 4 ?_);refine lS rfl rfl mH 2 rfl rfl rfl (av _ _ JW.out dw.out) (bG JW.out) (ak _ _) ?_;intro w7 fC))
  (try simp only [Exit.inBlock,Exit.then])
  refine bodyPost_ret (results_cell_row rfl _ _ (w.heap.size+1+1) 25 _ (0,0) _ rfl (fC.out.get 2 rfl) Tryz.underlying25 rfl (bG JW.out)) rfl ?_
  exact ⟨rfl,fC.out.below⟩
end Go.Proofs.YthdgbgleklkaiaaGreatDoor.Rd
namespace Go.Proofs.YthdgbgleklkaiaaGreatDoor.Rd
open Go.RowKit Lm Sc
theorem U6 (w:World):(zeroValue 204).run Tryz.prog w = .ok (.agg (arr .i64 (abD 64 0))) w:=by kernel_rfl
theorem SS (xs ys us:List Nat) (i k B:Nat) (hk:k < ys.length) (hl:i+k < us.length) (hv:val 256 us=val 256 (xs.take i) * B+256 ^ i * xs.getD i 0 * val 256 (ys.take k)) :
  val 256 (us.set (i+k) (us.getD (i+k) 0+xs.getD i 0 * ys.getD k 0))=val 256 (xs.take i) * B+256 ^ i * xs.getD i 0 * val 256 (ys.take (k+1)):=by
 have h:=nG 256 us (i+k) (us.getD (i+k) 0+xs.getD i 0 * ys.getD k 0) hl
 rw [bT _ _ _ hk,Nat.mul_add,← Nat.add_assoc,← hv]
 have e:256 ^ (i+k) * (us.getD (i+k) 0+xs.getD i 0 * ys.getD k 0)=256 ^ (i+k) * us.getD (i+k) 0+256 ^ i * xs.getD i 0 * (256 ^ k * ys.getD k 0):=by
  rw [Nat.mul_add,abO]
  grind
 omega
theorem Lb (xs ys us:List Nat) (i k:Nat) (hx:∀ x∈xs,x < 256) (hy:∀ x∈ys,x < 256) (hl:i+k < us.length) (hb:∀ n,us.getD n 0≤65025 * (i+if i≤n∧n < i+k then 1 else 0)) :
  ∀ n,(us.set (i+k) (us.getD (i+k) 0+xs.getD i 0 * ys.getD k 0)).getD n 0≤65025 * (i+if i≤n∧n < i+(k+1) then 1 else 0):=by
 intro n
 have h1:=dA hx (by decide) i
 have h2:=dA hy (by decide) k
 have h3:xs.getD i 0 * ys.getD k 0≤255 * 255:=Nat.mul_le_mul (by omega) (by omega)
 by_cases e:n=i+k
 ·subst e
  have h:=hb (i+k)
  have eg:(us.set (i+k) (us.getD (i+k) 0+xs.getD i 0 * ys.getD k 0)).getD (i+k) 0=us.getD (i+k) 0+xs.getD i 0 * ys.getD k 0:=by simp [abH,hl]
  rw [eg]
  rw [if_neg (by omega)] at h
  rw [if_pos (by omega)]
  omega
 ·have h:=hb n
  have eg:(us.set (i+k) (us.getD (i+k) 0+xs.getD i 0 * ys.getD k 0)).getD n 0=us.getD n 0:=by
   simp only [abH]
   rw [abM (fun e'=>e e'.symm)]
  rw [eg]
  by_cases e2:i≤n∧n < i+k
  ·rw [if_pos e2] at h
   rw [if_pos (by omega)]
   exact h
  ·rw [if_neg e2] at h
   rw [if_neg (by omega)]
   exact h
theorem Xd {a b:Nat} (ha:a < 256 ^ 32) (hb:b < 256 ^ 32):a * b < 256 ^ 64:=by
 rw [show (64:Nat)=32+32 from rfl,abO]
 exact Nat.mul_lt_mul_of_lt_of_lt ha hb
theorem Nt (k S c X t s c':Nat) (h:S+256 ^ k * c=X) (hs:s+256 * c'=c+t):(S+256 ^ k * s)+256 ^ (k+1) * c'=X+256 ^ k * t:=by
 have e:256 ^ k * (s+256 * c')=256 ^ k * (c+t):=by rw [hs]
 rw [Nat.pow_succ]
 grind
theorem Xb (a b:Nat) (w:World) (ha:a < 256 ^ 32) (hb:b < 256 ^ 32) (hT:ny w) :
  Calls Tryz.prog 117 #[.agg (arr .u8 (aW (bD 256 32 a))), .agg (arr .u8 (aW (bD 256 32 b)))] w fun e w'=>e = .returned (.agg (arr .u8 (aW (bD 256 32 (a * b % q)))))∧Below w.heap.size w w':=by
 have hab:=Xd ha hb
 have hp64:∀ V,V < 256 ^ 64→V < 2 ^ 512:=fun V h=>by rw [show (256:Nat)=2 ^ 8 from rfl,← Nat.pow_mul,show 8 * 64=512 from rfl] at h;exact h
 have FX:=fun w' ad cp (hs:Src w' ad 64 (aW (bD 256 64 (a * b)))) hT'=>q8 ad cp (a * b) w' hs (hp64 _ hab) hT'
 obtain ⟨xs,hxs⟩:∃ r,r=bD 256 32 a:=⟨_,rfl⟩
 obtain ⟨ys,hys⟩:∃ r,r=bD 256 32 b:=⟨_,rfl⟩
 have XL:Hid (xs.length=32):=abC (by rw [hxs,aK])
 have YL:Hid (ys.length=32):=abC (by rw [hys,aK])
 have XB:Hid (∀ x∈xs,x < 256):=abC (by rw [hxs];exact iw 256 (by decide) _ _)
 have YB:Hid (∀ x∈ys,x < 256):=abC (by rw [hys];exact iw 256 (by decide) _ _)
 have XV:Hid (val 256 xs=a):=abC (by rw [hxs,yV a ha])
 have YV:Hid (val 256 ys=b):=abC (by rw [hys,yV b hb])
 have HAB:=abC hab
 obtain ⟨x0,hx0⟩:∃ r,r=aW xs:=⟨_,rfl⟩
 obtain ⟨y0,hy0⟩:∃ r,r=aW ys:=⟨_,rfl⟩
 have X0L:Hid (x0.length=32):=abC (by rw [hx0,aG,XL.out])
 have Y0L:Hid (y0.length=32):=abC (by rw [hy0,aG,YL.out])
 have X0G:Hid (∀ k,x0.getD k 0=((xs.getD k 0:Nat):Int)):=abC (fun k=>by rw [hx0,bH])
 have Y0G:Hid (∀ k,y0.getD k 0=((ys.getD k 0:Nat):Int)):=abC (fun k=>by rw [hy0,bH])
 rw [← hxs,← hys,← hx0,← hy0]
 obtain ⟨ro,hro⟩:∃ r,r=aW (bD 256 32 (a * b % q)):=⟨_,rfl⟩
 have JW:Hid (ro.length=32):=abC (by rw [hro,aG,aK])
 rw [← hro] at FX ⊢
 obtain ⟨so,hso⟩:∃ r,r=aW (bD 256 64 (a * b)):=⟨_,rfl⟩
 have HS64:Hid (so.length=64):=abC (by rw [hso,aG,aK])
 have HSO:=abC hso
 rw [← hso] at FX
 have UL:Hid (∀ (w':World) {ad:Option Addr} {cp:Nat},Src w' ad 64 so→ny w'→Calls Tryz.prog 162 #[.slice ad 64 cp] w' fun e w''=>e = .returned (.agg (arr .u8 ro))∧Below w'.heap.size w' w''):=abC (fun w' ad cp h1 h2=>FX w' ad cp h1 h2)
 have HT:=abC hT
 obtain ⟨zn,hzn,dB,dw⟩:=zN zero_num
 obtain ⟨zs,hzs,HZzs,HLzs⟩:=zN Ic
 obtain ⟨zt,Ci⟩:∃ zs:List Int,zs=abD 64 0:=⟨_,rfl⟩
 have HZzt:Hid (∀ w,(zeroValue 204).run Tryz.prog w = .ok (.agg (arr .i64 zt)) w):=abC (by intro w;rw [Ci];exact U6 w)
 have HZS:Hid (zs=aW (abD 64 0)):=abC (by rw [hzs,iM])
 have HZT:Hid (zt=aW (abD 64 0)):=abC (by rw [Ci,iM])
 have bW:=abC (bO.four w (arr .u8 x0) (arr .u8 y0) (arr .u8 zn) (arr .i64 zt) 25 25 25 204)
 have hg0:∀ k,(abD 64 (0:Nat)).getD k 0=0:=fun k=>by simp only [abH,abZ];split <;> rfl
 have HG0:=abC hg0
 clear hzn hzs Ci FX hx0 hy0 hxs hys hro hso hT ha hb hg0 hab hp64
 go_enter Tryz.func117, Tryz.ntmps117
 go_wp2_with (first|((with_reducible refine aS 4 ?_);refine ah rfl 25 rfl _ (dB.out _) ?_)|((with_reducible refine aS 5 ?_);refine ah rfl 204 rfl _ (HZzt.out _) ?_))
 go_loopw [6] (fun v wr=>∃ i:Nat,i≤32∧v = .int .i64 i∧∃ ts:List Nat,ts.length=64∧(∀ n,ts.getD n 0≤65025 * i)∧val 256 ts=val 256 (xs.take i) * b∧bO w wr [(w.heap.size,arr .u8 x0, 25),(w.heap.size+1,arr .u8 y0, 25),(w.heap.size+1+1,arr .u8 zn, 25),(w.heap.size+1+1+1,arr .i64 (aW ts), 204)]) (fun v _=>32 - (intOf v).toNat)
 case atStart=>exact ⟨0,abE _,rfl,abD 64 0,by simp,(fun n=>by rw [HG0.out n];omega),(by rw [mI,acD];simp [val]),by rw [← HZT.out];exact bW.out⟩
 clear bW
 case round =>
 obtain ⟨i,hi,rfl,ts,tl,UY,tv,hB⟩:=hrel
 by_cases hlt:i < 32
 ·have HB:=abC hB
  have uD:=abC tl
  have HTB:=abC UY
  have HTV:=abC tv
  clear hB tl UY tv
  go_wp2_with fail
  generalize Value.bool (decide ((i:Int) < 32))=ub'
  go_loopw [7] (fun v wr=>∃ k:Nat,k≤32∧v = .int .i64 k∧∃ us:List Nat,us.length=64∧(∀ n,us.getD n 0≤65025 * (i+if i≤n∧n < i+k then 1 else 0))∧val 256 us=val 256 (xs.take i) * b+256 ^ i * xs.getD i 0 * val 256 (ys.take k)∧bO w wr [(w.heap.size,arr .u8 x0, 25),(w.heap.size+1,arr .u8 y0, 25),(w.heap.size+1+1,arr .u8 zn, 25),(w.heap.size+1+1+1,arr .i64 (aW us), 204)]) (fun v _=>32 - (intOf v).toNat)
  case atStart=>exact ⟨0,abE _,rfl,ts,uD.out,(by intro n;rw [if_neg (by omega)];exact HTB.out n),(by rw [HTV.out,acD];simp [val]),HB.out⟩
  case round =>
   obtain ⟨k,hk,rfl,us,ul,ub,uv,hU⟩:=hrel
   by_cases hlk:k < 32
   ·have q0:=aP (hU.get 0 rfl) i (by rw [X0L.out];exact hlt)
    have q1:=aP (hU.get 1 rfl) k (by rw [Y0L.out];exact hlk)
    have q2:=aP (hU.get 3 rfl) (i+k) (by rw [aG,ul];omega)
    have q3:=aC (hU.get 3 rfl) (i+k)
    rw [X0G.out] at q0
    rw [Y0G.out] at q1
    rw [bH] at q2
    have pb:=Lb xs ys us i k XB.out YB.out (by omega) ub
    have ps:=SS xs ys us i k b (by rw [YL.out];exact hlk) (by omega) uv
    have ub0:=ub (i+k)
    rw [if_neg (by omega)] at ub0
    have x1:=dA XB.out (by decide) i
    have y1:=dA YB.out (by decide) k
    have hp:xs.getD i 0 * ys.getD k 0≤255 * 255:=Nat.mul_le_mul (by omega) (by omega)
    have HPB:=abC pb
    have Oe:=abC ps
    obtain ⟨vs,hvs⟩:∃ vs,vs=us.set (i+k) (us.getD (i+k) 0+xs.getD i 0 * ys.getD k 0):=⟨_,rfl⟩
    have Og:Hid (vs.length=64):=abC (by rw [hvs,abL,ul])
    rw [← hvs] at HPB Oe
    have hpi:((xs.getD i 0 * ys.getD k 0:Nat):Int)=(xs.getD i 0:Int) * (ys.getD k 0:Int):=Int.natCast_mul _ _
    have hb1:=hU.cell 3 rfl (i+k) (.int .i64 ((us.getD (i+k) 0:Int)+(xs.getD i 0:Int) * (ys.getD k 0:Int)))
    have e2:(arr .i64 (aW us)).setIfInBounds (i+k) (.int .i64 ((us.getD (i+k) 0:Int)+(xs.getD i 0:Int) * (ys.getD k 0:Int)))=arr .i64 (aW vs):=by rw [← hpi,← acE,bq,← cZ,hvs]
    have HU1:=abC (hb1.cast (l':=[(w.heap.size,arr .u8 x0, 25),(w.heap.size+1,arr .u8 y0, 25),(w.heap.size+1+1,arr .u8 zn, 25),(w.heap.size+1+1+1,arr .i64 (aW vs), 204)]) (by rw [← e2];rfl))
    clear hb1 e2 hvs hU ul ub uv pb ps
    generalize us.getD (i+k) 0=u at q2 ub0 HU1
    generalize xs.getD i 0=x at q0 hp hpi Oe HU1 x1
    generalize ys.getD k 0=y at q1 hp hpi HU1 y1
    have hr1:0≤(x:Int) * (y:Int)∧(x:Int) * (y:Int)≤65025:=by rw [← hpi];omega
    clear hp hpi
    go_wp2_with fail
    go_region
    go_wp2_with fail
    go_roundw
    case rel=>exact ⟨k+1,by omega,by go_num,vs,Og.out,HPB.out,Oe.out,HU1.out.drew⟩
    case measure=>simp [intOf];omega
   ·obtain rfl:k=32:=by omega
    rw [abF (abI YL.out),YV.out] at uv
    have HU:=abC hU
    have Ke:=abC ul
    have HUB:Hid (∀ n,us.getD n 0≤65025 * (i+1)):=abC (by
     intro n
     have:=ub n
     by_cases e:i≤n∧n < i+32
     ·rw [if_pos e] at this;omega
     ·rw [if_neg e] at this;omega)
    have HUV:Hid (val 256 us=val 256 (xs.take (i+1)) * b):=abC (by rw [uv,bT 256 xs i (by rw [XL.out];exact hlt),Nat.add_mul])
    clear hU ul ub uv HB uD HTB HTV
    go_wp2_with fail
    go_roundw
    case rel=>exact ⟨i+1,by omega,by go_num,us,Ke.out,HUB.out,HUV.out,HU.out⟩
    case measure=>simp [intOf];omega
 ·obtain rfl:i=32:=by omega
  rw [abF (abI XL.out),XV.out] at tv
  have HB:=abC (hB.alloc (arr .u8 zs) 26)
  have uD:=abC tl
  have HTB:=abC UY
  have HTV:=abC tv
  clear hB tl UY tv
  go_wp2_with (first|((with_reducible refine aS 8 ?_);refine ah rfl 26 rfl _ (HZzs.out _) ?_))
  generalize wr.heap.size=gs at HB ⊢
  go_loopw [9,10] (fun cv jv wq=>∃ (j c:Nat) (ss:List Nat),j≤64∧jv = .int .i64 j∧cv = .int .i64 c∧c≤10000∧ss.length=64∧(∀ x∈ss,x < 256)∧val 256 (ss.take j)+256 ^ j * c=val 256 (ts.take j)∧bO w wq [(w.heap.size,arr .u8 x0, 25),(w.heap.size+1,arr .u8 y0, 25),(w.heap.size+1+1,arr .u8 zn, 25),(w.heap.size+1+1+1,arr .i64 (aW ts), 204),(gs,arr .u8 (aW ss), 26)]) (fun _ jv _=>64 - (intOf jv).toNat)
  case atStart=>exact ⟨0,0,abD 64 0,abE _,rfl,rfl,abE _,by simp,by simp,by simp [val],by rw [← HZS.out];exact HB.out⟩
  case round =>
   obtain ⟨j,c,ss,hj,rfl,rfl,hc,hsl,hsb,hv,hQ⟩:=hrel
   by_cases hlj:j < 64
   ·have q0:=aP (hQ.get 3 rfl) j (by rw [aG,uD.out];exact hlj)
    have q2:=aP (hQ.get 4 rfl) j (by rw [aG,hsl];exact hlj)
    have q3:=aC (hQ.get 4 rfl) j
    rw [bH] at q0
    have t1:=HTB.out j
    have st:=fun s c' hs=>Nt j _ c _ (ts.getD j 0) s c' hv hs
    have vm:=fun s=>kI 256 ss j s (by omega)
    rw [← bT 256 ts j (by rw [uD.out];exact hlj)] at st
    generalize ts.getD j 0=t at q0 t1 st
    have hst:=st ((c+t) % 256) ((c+t) / 256) (by omega)
    rw [← vm] at hst
    have ha:=qF (c+t) (by omega)
    rw [acE] at ha
    have hb1:=hQ.cell 4 rfl j (.int .u8 (bits .and .i64 ((c:Int)+(t:Int)) 255 % 256))
    have e2:(arr .u8 (aW ss)).setIfInBounds j (.int .u8 (bits .and .i64 ((c:Int)+(t:Int)) 255 % 256))=arr .u8 (aW (ss.set j ((c+t) % 256))):=by rw [ha,show ((((c+t) % 256:Nat):Int) % 256)=(((c+t) % 256:Nat):Int) by omega,bq,← cZ]
    have HQ1:=abC (hb1.cast (l':=[(w.heap.size,arr .u8 x0, 25),(w.heap.size+1,arr .u8 y0, 25),(w.heap.size+1+1,arr .u8 zn, 25),(w.heap.size+1+1+1,arr .i64 (aW ts), 204),(gs,arr .u8 (aW (ss.set j ((c+t) % 256))), 26)]) (by rw [← e2];rfl))
    have HST:=abC hst
    have HSL:Hid ((ss.set j ((c+t) % 256)).length=64):=abC (by rw [abL,hsl])
    have yM:Hid (∀ z∈ss.set j ((c+t) % 256),z < 256):=abC (jN hsb j ((c+t) % 256) (abJ _ (by decide)))
    clear hb1 e2 hst st vm hQ hsl hsb hv ha
    go_wp2_with fail
    go_roundw
    case rel=>exact ⟨j+1,(c+t) / 256,_,by omega,by go_num,by go_num,by omega,HSL.out,yM.out,HST.out,HQ1.out⟩
    case measure=>simp [intOf];omega
   ·obtain rfl:j=64:=by omega
    rw [abF (abI hsl),abF (abI uD.out),HTV.out] at hv
    have hab:=HAB.out
    have hc0:c=0:=by
     rcases Nat.eq_zero_or_pos c with h|h
     ·exact h
     ·have:256 ^ 64 * 1≤256 ^ 64 * c:=abY _ h
      omega
    subst hc0
    rw [abP,abQ] at hv
    have hd:=nV 256 (by decide) 64 (a * b) ss hsl hsb hv
    rw [hd,← HSO.out] at hQ
    have HQ:=abC hQ
    clear hQ hv hab hd hsl hsb hc HB
    go_wp2_with (first|((with_reducible show Calls _ 162 _ _ _);go_at_call 162; refine lC (UL.out _ (Iw (HQ.out.get 4 rfl) 64 HS64.out) (HT.out.below HQ.out.below)) HQ ?_;intro w6 mH)|((with_reducible refine aT 4 ?_);refine lS rfl rfl mH 2 rfl rfl rfl (av _ _ JW.out dw.out) (bG JW.out) (ak _ _) ?_;intro w7 fC))
    (try simp only [Exit.inBlock,Exit.then])
    refine bodyPost_ret (results_cell_row rfl _ _ (w.heap.size+1+1) 25 _ (0,0) _ rfl (fC.out.get 2 rfl) Tryz.underlying25 rfl (bG JW.out)) rfl ?_
    exact ⟨rfl,fC.out.below⟩
end Go.Proofs.YthdgbgleklkaiaaGreatDoor.Rd
namespace Go.Proofs.YthdgbgleklkaiaaGreatDoor.Rd
open Go.RowKit Lm Fp Cu Sc
theorem iE {a b:World} (h:Hb.eP a) (k:Below a.heap.size a b):Hb.eP b:=fun t ht=>(Kept.of_below k (T:=fun _=>False)).lV (h t ht) id
theorem h512:(2:Nat) ^ 512=256 ^ 64:=by
 have:=Nat.pow_mul 2 8 64
 rw [show 8 * 64=512 from rfl,show (2:Nat) ^ 8=256 from rfl] at this
 exact this
theorem own_src {w:World} {B:Nat} {v:Value} {xs:List Int} (h:aU w B v xs):∃ s c,v = .slice s xs.length c∧Src w s xs.length xs:=by
 obtain ⟨s,c,rfl,_,_,hs,_⟩:=h.form
 exact ⟨s,c,rfl,hs⟩
theorem Ij (sa:Option Addr) (n c:Nat) (L:List (List Int)) (w:World) (hs:om w sa n L) (hb:∀ l∈L,bytes l) (hN:L.flatten.length≤1099511627776) (hn:n≤1099511627776) (hk:Hb.eP w) (hT:ny w) :
  Calls Tryz.prog 111 #[.slice sa n c] w fun e w'=>e = .returned (.agg (arr .u8 (n32 (wide L.flatten))))∧Below w.heap.size w w':=by
 have hbf:bytes L.flatten:=by intro x hx;obtain ⟨l,hl,hx⟩:=List.mem_flatten.1 hx;exact hb l hl x hx
 have hj:∀ (u:World),om u sa n L→Calls Tryz.prog 161 #[.slice sa n c] u fun e w'=>∃ s cc,e = .returned (.slice s L.flatten.length cc)∧Src w' s L.flatten.length L.flatten∧Below u.heap.size u w':=by
  intro u h
  refine (Xv sa n c L u h hN hn).mono ?_
  rintro e w' ⟨v,rfl,h1,h2⟩
  obtain ⟨s,cc,rfl,h3⟩:=own_src h1
  exact ⟨s,cc,rfl,h3,h2⟩
 have hsh:=fun (u:World) (s:Option Addr) (c:Nat) (h:Src u s L.flatten.length L.flatten) (hk:Hb.eP u)=>Hb.jw s L.flatten.length c L.flatten u h hbf (by omega) hk
 have hh:=pQ L.flatten
 have hl:=Hb.dM L.flatten
 have hwd:wide L.flatten=fD (Hb.hash L.flatten) % q:=rfl
 rw [hwd]
 obtain ⟨hs',hhs⟩:∃ h,h=Hb.hash L.flatten:=⟨_,rfl⟩
 rw [← hhs] at hsh hh hl ⊢
 have hd:=JF hh
 rw [hl] at hd
 have hV:=yF hh
 rw [hl] at hV
 obtain ⟨V,hVe⟩:∃ v,v=fD hs':=⟨_,rfl⟩
 rw [← hVe] at hd hV ⊢
 generalize hLL:L.flatten.length=m at hj hsh
 have UL:Hid (∀ (sa:Option Addr) (u:World),Src u sa 64 hs'→ny u→Calls Tryz.prog 162 #[.slice sa 64 64] u fun e w'=>e = .returned (.agg (arr .u8 (n32 (V % q))))∧Below u.heap.size u w'):=abC (fun sa u h hT=>q8 sa 64 V u (by rw [hd];exact h) (by rw [h512];exact hV) hT)
 obtain ⟨ro,hro⟩:∃ r,r=n32 (V % q):=⟨_,rfl⟩
 rw [← hro] at UL ⊢
 have iR:Hid (ro.length=32):=abC (by rw [hro];exact cK _)
 have HJ:=abC hj
 have UK:=abC hsh
 have HSL:=abC hl
 have HS:=abC hs
 have HK:=abC hk
 have HT:=abC hT
 obtain ⟨zn,hzn,dB,dw⟩:=zN zero_num
 obtain ⟨iC,pK,vQ,rT⟩:=zN Sl.sJ
 have bW:=abC (bO.one w (arr .u8 zn) 25)
 clear hLL hzn pK hs hb hbf hj hsh hh hl hwd hhs hd hV hVe hro hk hT hN hn
 go_enter Tryz.func111, Tryz.ntmps111
 go_upto_region 1 with (first|((with_reducible refine aS 2 ?_);refine ah rfl 25 rfl _ (dB.out _) ?_))
 (try simp only [World.size_alloc,Act.put,sA,sZ,sS])
 generalize (w.alloc (.cells (arr .u8 zn) 25))=wb at bW ⊢
 go_upto_region 2 with (first|((with_reducible show Calls _ 161 _ _ _);go_at_call 161; refine (HJ.out _ (HS.out.below bW.out.below)).mono ?_;rintro e w1 ⟨sj,cj,rfl,h1,hb1⟩;have HSJ:=abC h1;have HB1:=abC (bW.out.kept hb1);clear h1 hb1)|((with_reducible show Calls _ 128 _ _ _);go_at_call 128; refine lC (UK.out _ _ _ HSJ.out (iE HK.out HB1.out.below)) HB1 ?_;intro w2 HB2)|((with_reducible refine aS 3 ?_);refine lA rfl rfl (vQ.out _) HB2 ?_;intro g5 w3 HB3)|((with_reducible refine aT 3 ?_);refine lS rfl rfl HB3 1 rfl rfl rfl (av _ _ HSL.out rT.out) (Sl.sU HSL.out) (ak _ _) ?_;intro w4 ou))
 (try simp only [World.size_alloc,Act.put,sA,sZ,sS])
 go_wp2_with (first|((with_reducible show Calls _ 162 _ _ _);go_at_call 162; refine lC (UL.out _ _ (Sl.bQ (ou.out.get 1 rfl) 64 HSL.out) (HT.out.below ou.out.below)) ou ?_;intro w5 gy)|((with_reducible refine aT 2 ?_);refine lS rfl rfl gy 0 rfl rfl rfl (av _ _ iR.out dw.out) (bG iR.out) (ak _ _) ?_;intro w6 mH))
 (try simp only [Exit.then])
 refine bodyPost_ret (results_cell_row rfl _ _ (w.heap.size) 25 _ (0,0) _ rfl (mH.out.get 0 rfl) Tryz.underlying25 rfl (bG iR.out)) rfl ?_
 exact ⟨rfl,mH.out.below⟩
end Go.Proofs.YthdgbgleklkaiaaGreatDoor.Rd
