/- The document's Reduce: The document's AddQ. Condition: as each theorem says. -/

import Derived.Test.YthdgbgleklkaiaaDoorQb20
open Go.Lib renaming hid→acD
open List renaming replicate→acE,getD→acJ,take_of_length_le→acK,length_set→acN,getElem?_set_ne→acO
open BitVec renaming ofInt→acF,ofInt_natCast→acQ,toNat_ofNat→acR,toNat_and→acS
open Nat renaming mod_eq_of_lt→acG,mod_lt→acH,zero_le→acI,le_of_eq→acL,lt_of_lt_of_le→acM,and_two_pow_sub_one_eq_mod→acP
set_option linter.unusedSimpArgs false
set_option linter.unusedVariables false
set_option maxRecDepth 100000
set_option maxHeartbeats 16000000
namespace Go.Proofs.YthdgbgleklkaiaaDoor.Rd
open Go.RowKit Lm Sc
theorem and1i (y:Nat) (h:y < 9223372036854775808):bits .and .i64 (y:Int) 1=((y % 2:Nat):Int):=by
 have e:y &&& 1=y % 2:=acP y 1
 have h1:(acF 64 (y:Int)).toNat=y:=by rw [acQ,acR];exact acG (by omega)
 have h2:(acF 64 (1:Int)).toNat=1:=by decide
 show IntKind.i64.wrap ((acF 64 (y:Int) &&& acF 64 (1:Int)).toNat:Int)=_
 rw [acS,h1,h2,e,IntKind.wrap_i64]
 omega
theorem qX (x:Nat) (hx:x < 9223372036854775808):bits .and .i64 (x:Int) 255=((x % 256:Nat):Int):=by
 have e:x &&& 255=x % 256:=acP x 8
 have h1:(acF 64 (x:Int)).toNat=x:=by rw [acQ,acR];exact acG (by omega)
 have h2:(acF 64 (255:Int)).toNat=255:=by decide
 show IntKind.i64.wrap ((acF 64 (x:Int) &&& acF 64 (255:Int)).toNat:Int)=_
 rw [acS,h1,h2,e,IntKind.wrap_i64]
 omega
theorem M8 (V k:Nat) (hk:k < 512):∃ y:Nat,(aW (bD 256 64 V)).getD (k / 8) 0=y∧y < 256∧bits .and .i64 ((y:Int) / 2 ^ (k % 8)) 1=((V / 2 ^ k % 2:Nat):Int):=by
 refine ⟨V / 256 ^ (k / 8) % 256,by rw [bG,dz _ _ _ _ (by omega)],acH _ (by decide),?_⟩
 have e1:((V / 256 ^ (k / 8) % 256:Nat):Int) / 2 ^ (k % 8)=((V / 256 ^ (k / 8) % 256 / 2 ^ (k % 8):Nat):Int):=by
  rw [Int.natCast_ediv,Int.natCast_pow];rfl
 rw [e1,and1i _ (Nat.lt_of_le_of_lt (Nat.div_le_self _ _) (Nat.lt_trans (acH _ (by decide)) (by decide))),Jq]
theorem MX:acE 33 (0:Int)=aW (bD 256 33 0):=by decide +kernel
def CO (N i:Nat):List Int:=tb 32 fun j=>if j < i then ((N / 256 ^ j % 256:Nat):Int) else 0
theorem SB (N:Nat):acE 32 0=CO N 0:=by
 rw [tY]
 exact bZ _ _ _ fun j _=>by rw [if_neg (by omega)]
theorem SE (N i:Nat):(CO N i).set i ((N / 256 ^ i % 256:Nat):Int)=CO N (i+1):=by
 rw [CO,iN]
 refine bZ _ _ _ fun j _=>?_
 by_cases e:j=i
 ·subst e;rw [if_pos rfl,if_pos (show j < j+1 by omega)]
 ·rw [if_neg e]
  by_cases e3:j < i
  ·rw [if_pos e3,if_pos (show j < i+1 by omega)]
  ·rw [if_neg e3,if_neg (show ¬ j < i+1 by omega)]
theorem WM (N:Nat):CO N 32=aW (bD 256 32 N):=by
 rw [Dj 32 (aW (bD 256 32 N)) (by rw [aJ,aK])]
 exact bZ _ _ _ fun j hj=>by rw [if_pos hj,bG,dz _ _ _ _ hj]
theorem dbl_lt (P b:Nat) (hP:P < q) (hb:b≤1):2 * P+b < 256 ^ 33:=by
 have hq:2 * q < 256 ^ 33:=by decide +kernel
 omega
theorem rT (sa:Option Addr) (cp V:Nat) (w:World) (hs:Src w sa 64 (aW (bD 256 64 V))) (hV:V < 2 ^ 512) (hT:ni w) :
  Calls Tryd.prog 84 #[.slice sa 64 cp] w fun e w'=>e = .returned (.agg (arr .u8 (aW (bD 256 32 (V % q)))))∧Below w.heap.size w w':=by
 obtain ⟨ad,rfl, -⟩:=hs.cell 0 (by decide)
 have hcell:∀ i,i < 64→w.cell? (ad.add i)=some (.int .u8 ((aW (bD 256 64 V)).getD i 0)):=fun i hi=>by
  obtain ⟨a,h1,h2⟩:=hs.cell i hi
  cases h1
  exact h2
 have HCELL:=acD hcell
 have HT:=acD hT
 have HV:=acD hV
 obtain ⟨ro,hro⟩:∃ r,r=aW (bD 256 32 (V % q)):=⟨_,rfl⟩
 have HRO:Hid (CO (V % q) 32=ro):=acD (by rw [hro];exact WM _)
 have Jy:Hid (ro.length=32):=acD (by rw [hro,aJ,aK])
 rw [← hro]
 obtain ⟨zn,hzn⟩:∃ zs:List Int,zs=acE 32 0:=⟨_,rfl⟩
 have dA:Hid (∀ w,(zeroValue 23).run Tryd.prog w = .ok (.agg (arr .u8 zn)) w):=acD (by intro w;rw [hzn];exact zero_num w)
 have cK:Hid (zn.length=32):=acD (by rw [hzn];rfl)
 obtain ⟨zr,hzr⟩:∃ zs:List Int,zs=acE 33 0:=⟨_,rfl⟩
 have HZzr:Hid (∀ w,(zeroValue 141).run Tryd.prog w = .ok (.agg (arr .i64 zr)) w):=acD (by intro w;rw [hzr];exact OQ w)
 have HLzr:Hid (zr.length=33):=acD (by rw [hzr];rfl)
 have HZ0:Hid (zr=aW (bD 256 33 0)):=acD (by rw [hzr];exact MX)
 have HZN:Hid (zn=CO (V % q) 0):=acD (by rw [hzn];exact SB _)
 have bQ:=acD (bM.two w (arr .u8 zn) (arr .i64 zr) 23 141)
 clear hzn hzr hs hcell hT hV hro
 go_enter Tryd.func84, Tryd.ntmps84
 go_upto_region 4 with (first|((with_reducible refine aS 2 ?_);refine aj rfl 23 rfl _ (dA.out _) ?_)|((with_reducible refine aS 3 ?_);refine aj rfl 141 rfl _ (HZzr.out _) ?_))
 (try simp only [World.size_alloc,Act.put,sA,sZ,sS])
 generalize w.heap.size+1=g3 at bQ ⊢
 generalize ((w.alloc (.cells (arr .u8 zn) 23)).alloc (.cells (arr .i64 zr) 141))=wb at bQ ⊢
 go_wp2_with fail
 go_loopw [4] (fun v wr=>∃ n:Nat,n≤512∧v = .int .i64 (511 - (n:Int))∧bM w wr [(w.heap.size,arr .u8 zn, 23),(g3,arr .i64 (aW (bD 256 33 (Ro V (512 - n)))), 141)]) (fun v _=>(intOf v+1).toNat)
 case atStart=>exact ⟨0,acI _,rfl,by rw [show 512 - 0=512 from rfl,upq_top V 512 HV.out,← HZ0.out];exact bQ.out⟩
 case round =>
 obtain ⟨n,hn,rfl,hB⟩:=hrel
 by_cases hlt:n < 512
 ·obtain ⟨i,hi⟩:∃ i:Nat,i+n=511:=⟨511 - n,by omega⟩
  have hz:(511:Int) - (n:Int)=(i:Int):=by omega
  have hi2:i < 512:=by omega
  obtain ⟨y,hy,hy2,hbit⟩:=M8 V i hi2
  have q0:=dI hB.below (HCELL.out (i / 8) (by omega))
  rw [hy] at q0
  rw [show 512 - n=i+1 by omega] at hB
  rw [hz]
  have hps:=fun m=>Vf V i m
  have hpl:=Vg V (i+1)
  generalize Ro V (i+1)=P at hB hps hpl
  have hbl:V / 2 ^ i % 2≤1:=by omega
  generalize V / 2 ^ i % 2=b at hbit hps hbl
  obtain ⟨rs,hrs⟩:∃ r,r=bD 256 33 P:=⟨_,rfl⟩
  have hdl:=dbl_lt P b hpl hbl
  have rl:rs.length=33:=by rw [hrs,aK]
  have rb:∀ x∈rs,x < 256:=by rw [hrs];exact ig 256 (by decide) _ _
  have rv:val 256 rs=P:=by rw [hrs,fA];exact acG (by omega)
  rw [← hrs] at hB
  have HB:=acD hB
  have HI:=acD hi
  have FZ:=acD hps
  have yV:=acD hdl
  have RL:=acD rl
  have RB:=acD rb
  have RV:=acD rv
  have q9:0≤(i:Int):=by omega
  clear hB hy hz hi hps hpl hrs hdl rl rb rv
  go_wp2_with fail
  clear q0 hbit
  go_loopw [5,6] (fun cv kv wr2=>∃ (k c:Nat) (us:List Nat),k≤33∧kv = .int .i64 k∧cv = .int .i64 c∧c≤1∧us.length=33∧(∀ x∈us,x < 256)∧(∀ j,k≤j→us.getD j 0=rs.getD j 0)∧val 256 (us.take k)+256 ^ k * c=val 256 (rs.take k)+(val 256 (rs.take k)+b)∧bM w wr2 [(w.heap.size,arr .u8 zn, 23),(g3,arr .i64 (aW us), 141)]) (fun _ kv _=>33 - (intOf kv).toNat)
  case atStart=>exact ⟨0,b,rs,acI _,rfl,rfl,hbl,RL.out,RB.out,(fun _ _=>rfl),by simp [val],HB.out⟩
  case round =>
   obtain ⟨k,c,us,hk,rfl,rfl,hc,hul,hub,hur,huv,hU⟩:=hrel
   by_cases hlk:k < 33
   ·have q2:=aP (hU.get 1 rfl) k (by rw [aJ,hul];exact hlk)
    have q3:=aC (hU.get 1 rfl) k
    rw [bG,hur k (Nat.le_refl _)] at q2
    have r1:=dx RB.out (by decide) k
    have st:=fun s c' hs=>Ju 256 k _ _ _ (rs.getD k 0) (rs.getD k 0) c s c' huv hs
    have vm:=fun s=>kL 256 us k s (by omega)
    have vr:=bS 256 rs k (by rw [RL.out];exact hlk)
    generalize rs.getD k 0=r at q2 r1 st vr
    have hst:=st ((2 * r+c) % 256) ((2 * r+c) / 256) (by omega)
    rw [← vm] at hst
    have Xu:val 256 ((us.set k ((2 * r+c) % 256)).take (k+1))+256 ^ (k+1) * ((2 * r+c) / 256)=val 256 (rs.take (k+1))+(val 256 (rs.take (k+1))+b):=by rw [hst,vr];omega
    have ha:=qX (2 * r+c) (by omega)
    rw [show ((2 * r+c:Nat):Int)=2 * (r:Int)+(c:Int) by omega] at ha
    have hb1:=hU.cell 1 rfl k (.int .i64 (bits .and .i64 (2 * (r:Int)+(c:Int)) 255))
    have e2:(arr .i64 (aW us)).setIfInBounds k (.int .i64 (bits .and .i64 (2 * (r:Int)+(c:Int)) 255))=arr .i64 (aW (us.set k ((2 * r+c) % 256))):=by rw [ha,bf,← dw]
    have HU1:=acD (hb1.cast (l':=[(w.heap.size,arr .u8 zn, 23),(g3,arr .i64 (aW (us.set k ((2 * r+c) % 256))), 141)]) (by rw [← e2];rfl))
    have HST:=acD Xu
    have JW:Hid ((us.set k ((2 * r+c) % 256)).length=33):=acD (by rw [acN,hul])
    have HUB:Hid (∀ x∈us.set k ((2 * r+c) % 256),x < 256):=acD (jI hub _ _ (by omega))
    have HUR:Hid (∀ j,k+1≤j→(us.set k ((2 * r+c) % 256)).getD j 0=rs.getD j 0):=acD (by intro j hj;have e:=hur j (by omega);simp only [acJ] at e ⊢; rw [acO (by omega)];exact e)
    clear hb1 e2 hst Xu st vm vr ha hU hul hub hur huv
    go_wp2_with fail
    go_roundw
    case rel=>exact ⟨k+1,(2 * r+c) / 256,_,by omega,by go_num,by go_num,by omega,JW.out,HUB.out,HUR.out,HST.out,HU1.out⟩
    case measure=>simp [intOf];omega
   ·obtain rfl:k=33:=by omega
    rw [acK (acL hul),acK (acL RL.out),RV.out] at huv
    have hlv:=rO 256 us hub
    rw [hul] at hlv
    have hdl:=yV.out
    have hc0:c=0:=by
     rcases (show c=0∨c=1 by omega) with h|h
     ·exact h
     ·subst h;omega
    subst hc0
    have hdig:=qp 256 (by decide) 33 (2 * P+b) us hul hub (by omega)
    have hl:=fun w h=>WQ (2 * P+b) w hdl h
    rw [FZ.out _ rfl,← hdig] at hl
    have hul':(aW us).length=33:=by rw [aJ,hul]
    have HTb:=acD (HT.out.below hU.below)
    obtain ⟨u0,hu0⟩:∃ x,x=aW us:=⟨_,rfl⟩
    rw [← hu0] at hU hl hul'
    obtain ⟨v0,hv0⟩:∃ x,x=aW (bD 256 33 (Ro V i)):=⟨_,rfl⟩
    rw [← hv0] at hl
    have HL:=acD hl
    have JW:=acD hul'
    have HU:=acD hU
    have Ct:Hid (v0.length=33):=acD (by rw [hv0,aJ,aK])
    have HV0:=acD hv0
    clear hU hul hub hur huv hlv hdl hc hdig hl hul' hu0 hv0 HB
    go_wp2_with (first|((with_reducible refine aS 50 ?_);refine lL rfl rfl (HU.out.get 1 rfl) rfl (au _ _) Tryd.underlying141 rfl (O0 JW.out) ?_)|((with_reducible show Calls _ 96 _ _ _);go_at_call 96; refine lC (HL.out _ HTb.out) HU ?_;intro w6 HU6)|((with_reducible refine aT 3 ?_);refine lS rfl rfl HU6 1 rfl rfl rfl (ay _ _ Ct.out JW.out) (Dk Ct.out) (av _ _) ?_;intro w7 HU7))
    go_roundw
    case rel =>
     have e:=HI.out
     exact ⟨n+1,by omega,by congr 1;omega,by rw [show 512 - (n+1)=i by omega,← HV0.out];exact HU7.out⟩
    case measure=>simp [intOf]
 ·obtain rfl:n=512:=by omega
  rw [show 512 - 512=0 from rfl,Ve] at hB
  have hz:(511:Int) - ((512:Nat):Int) = -1:=by omega
  rw [hz]
  have rl:(aW (bD 256 33 (V % q))).length=33:=by rw [aJ,aK]
  have rg:∀ j,j < 32→(aW (bD 256 33 (V % q))).getD j 0=((V % q / 256 ^ j % 256:Nat):Int):=fun j hj=>by rw [bG,dz _ _ _ _ (by omega)]
  have HB:=acD (hB.alloc (arr .u8 zn) 23)
  generalize aW (bD 256 33 (V % q))=r0 at rl rg HB
  have RL:=acD rl
  have RG:=acD rg
  clear hz hB rl rg bQ
  go_wp2_with (first|((with_reducible refine aS 8 ?_);refine aj rfl 23 rfl _ (dA.out _) ?_))
  generalize wr.heap.size=gn at HB ⊢
  go_loopw [9] (fun v wq=>∃ j:Nat,j≤32∧v = .int .i64 j∧∃ os:List Int,os=CO (V % q) j∧bM w wq [(w.heap.size,arr .u8 zn, 23),(g3,arr .i64 r0, 141),(gn,arr .u8 os, 23)]) (fun v _=>32 - (intOf v).toNat)
  case atStart=>exact ⟨0,acI _,rfl,_,HZN.out,HB.out⟩
  case round =>
   obtain ⟨j,hj,rfl,os,hos,hQ⟩:=hrel
   have ol:os.length=32:=by rw [hos];exact dU _ _
   by_cases hlo:j < 32
   ·have q0:=aP (hQ.get 1 rfl) j (by rw [RL.out];omega)
    have q2:=aP (hQ.get 2 rfl) j (by rw [ol];omega)
    have q3:=aC (hQ.get 2 rfl) j
    rw [RG.out j hlo] at q0
    have st:=SE (V % q) j
    have hz2:V % q / 256 ^ j % 256 < 256:=acH _ (by decide)
    generalize V % q / 256 ^ j % 256=z at q0 st hz2
    have hb1:=hQ.cell 2 rfl j (.int .u8 (z:Int))
    have e2:(arr .u8 os).setIfInBounds j (.int .u8 (z:Int))=arr .u8 (CO (V % q) (j+1)):=by rw [bf,hos,st]
    have HQ1:=acD (hb1.cast (l':=[(w.heap.size,arr .u8 zn, 23),(g3,arr .i64 r0, 141),(gn,arr .u8 (CO (V % q) (j+1)), 23)]) (by rw [← e2];rfl))
    clear hb1 e2 hos hQ st ol
    go_wp2_with fail
    go_roundw
    case rel=>exact ⟨j+1,by omega,by go_num,_,rfl,HQ1.out⟩
    case measure=>simp [intOf];omega
   ·obtain rfl:j=32:=by omega
    rw [HRO.out] at hos
    subst hos
    have HQ:=acD hQ
    have HOL:=acD ol
    clear hQ ol HB
    go_wp2_with (first|((with_reducible refine aS 62 ?_);refine lL rfl rfl (HQ.out.get 2 rfl) rfl (au _ _) Tryd.underlying23 rfl (bU HOL.out) ?_)|((with_reducible refine aT 2 ?_);refine lS rfl rfl HQ 0 rfl rfl rfl (ay _ _ HOL.out cK.out) (bE HOL.out) (av _ _) ?_;intro w8 HQ8))
    (try simp only [Exit.inBlock,Exit.then])
    refine bodyPost_ret (results_cell_row rfl _ _ (w.heap.size) 23 _ (0,0) _ rfl (HQ8.out.get 0 rfl) Tryd.underlying23 rfl (bE HOL.out)) rfl ?_
    exact ⟨rfl,HQ8.out.below⟩
end Go.Proofs.YthdgbgleklkaiaaDoor.Rd
namespace Go.Proofs.YthdgbgleklkaiaaDoor.Rd
open Go.RowKit Lm Sc
theorem GV (w:World):(zeroValue 25).run Tryd.prog w = .ok (.agg (arr .u8 (acE 64 0))) w:=by kernel_rfl
theorem Ht {w:World} {g:Nat} {xs:List Int} {t:TypeId} {fr:Nat×Nat} (h:w.heap[g]? = some (.cells (arr .u8 xs) t fr)) (m:Nat) (hm:xs.length=m):Src w (some ⟨g,0,none⟩) m xs :=
 nL h (by rw [bN,Nat.mul_one,acK (by rw [List.length_map];exact Nat.le_refl _)]) hm
theorem lt_pow {a b:Nat} (ha:a < 256 ^ 32) (hb:b < 256 ^ 32) (n:Nat) (hn:257≤n):a+b < 2 ^ n:=by
 obtain ⟨k,rfl⟩:∃ k,n=256+(k+1):=⟨n - 257,by omega⟩
 rw [Nat.pow_add]
 have h2:2≤2 ^ (k+1):=by
  rw [Nat.pow_succ]
  have:=Nat.one_le_two_pow (n:=k)
  omega
 exact acM (Nat.add_lt_add ha hb) (Nat.le_trans (show 256 ^ 32+256 ^ 32≤2 ^ 256 * 2 by decide) (Nat.mul_le_mul_left _ h2))
theorem AO (A k:Nat) (hA:A < 256 ^ 32) (hk:k < 33):(bD 256 33 A).getD k 0=if k < 32 then (bD 256 32 A).getD k 0 else 0:=by
 rw [dz _ _ _ _ hk]
 split
 ·rename_i h;rw [dz _ _ _ _ h]
 ·obtain rfl:k=32:=by omega
  rw [Nat.div_eq_of_lt hA]
theorem Vb (n k:Nat) (xs:List Nat) (hl:xs.length=n) (hk:k≤n) (hz:∀ j,k≤j→xs.getD j 0=0):val 256 xs=val 256 (xs.take k):=by
 have e:xs=xs.take k ++ xs.drop k:=(List.take_append_drop k xs).symm
 have hd:xs.drop k=acE (n - k) 0:=by
  apply List.ext_getElem
  ·simp [hl]
  ·intro i h1 h2
   have:=hz (k+i) (by omega)
   simp only [List.length_drop] at h1
   rw [acJ,List.getElem?_eq_getElem (by omega)] at this
   simpa using this
 rw [e,val_append,hd,mJ,Nat.mul_zero,Nat.add_zero,← hd,← e]
theorem abZ (a b:Nat) (w:World) (ha:a < 256 ^ 32) (hb:b < 256 ^ 32) (hT:ni w) :
  Calls Tryd.prog 62 #[.agg (arr .u8 (aW (bD 256 32 a))), .agg (arr .u8 (aW (bD 256 32 b)))] w fun e w'=>e = .returned (.agg (arr .u8 (aW (bD 256 32 ((a+b) % q)))))∧Below w.heap.size w w':=by
 have Fx:=fun w' ad cp (hs:Src w' ad 64 (aW (bD 256 64 (a+b)))) hT'=>rT ad cp (a+b) w' hs (lt_pow ha hb 512 (by decide)) hT'
 obtain ⟨xs,hxs⟩:∃ r,r=bD 256 33 a:=⟨_,rfl⟩
 obtain ⟨ys,hys⟩:∃ r,r=bD 256 33 b:=⟨_,rfl⟩
 have XL:Hid (xs.length=33):=acD (by rw [hxs,aK])
 have YL:Hid (ys.length=33):=acD (by rw [hys,aK])
 have XB:Hid (∀ x∈xs,x < 256):=acD (by rw [hxs];exact ig 256 (by decide) _ _)
 have YB:Hid (∀ x∈ys,x < 256):=acD (by rw [hys];exact ig 256 (by decide) _ _)
 have XV:Hid (val 256 xs=a):=acD (by rw [hxs,fA];exact acG (acM ha (by decide)))
 have YV:Hid (val 256 ys=b):=acD (by rw [hys,fA];exact acG (acM hb (by decide)))
 have XG:Hid (∀ k,k < 33→(if k < 32 then (bD 256 32 a).getD k 0 else 0)=xs.getD k 0):=acD (fun k h=>by rw [hxs];exact (AO a k ha h).symm)
 have YG:Hid (∀ k,k < 33→(if k < 32 then (bD 256 32 b).getD k 0 else 0)=ys.getD k 0):=acD (fun k h=>by rw [hys];exact (AO b k hb h).symm)
 have HAB:Hid (a+b < 256 ^ 33):=acD (acM (Nat.add_lt_add ha hb) (by decide))
 obtain ⟨x0,hx0⟩:∃ r,r=aW (bD 256 32 a):=⟨_,rfl⟩
 obtain ⟨y0,hy0⟩:∃ r,r=aW (bD 256 32 b):=⟨_,rfl⟩
 have X0L:Hid (x0.length=32):=acD (by rw [hx0,aJ,aK])
 have Y0L:Hid (y0.length=32):=acD (by rw [hy0,aJ,aK])
 have X0G:Hid (∀ k,x0.getD k 0=(((bD 256 32 a).getD k 0:Nat):Int)):=acD (fun k=>by rw [hx0,bG])
 have Y0G:Hid (∀ k,y0.getD k 0=(((bD 256 32 b).getD k 0:Nat):Int)):=acD (fun k=>by rw [hy0,bG])
 rw [← hx0,← hy0]
 obtain ⟨ro,hro⟩:∃ r,r=aW (bD 256 32 ((a+b) % q)):=⟨_,rfl⟩
 have Jy:Hid (ro.length=32):=acD (by rw [hro,aJ,aK])
 rw [← hro] at Fx ⊢
 obtain ⟨so,hso⟩:∃ r,r=aW (bD 256 64 (a+b)):=⟨_,rfl⟩
 have HS64:Hid (so.length=64):=acD (by rw [hso,aJ,aK])
 have HSO:=acD hso
 rw [← hso] at Fx
 have Uj:Hid (∀ (w':World) {ad:Option Addr} {cp:Nat},Src w' ad 64 so→ni w'→Calls Tryd.prog 84 #[.slice ad 64 cp] w' fun e w''=>e = .returned (.agg (arr .u8 ro))∧Below w'.heap.size w' w''):=acD (fun w' ad cp h1 h2=>Fx w' ad cp h1 h2)
 have HT:=acD hT
 obtain ⟨zn,hzn⟩:∃ zs:List Int,zs=acE 32 0:=⟨_,rfl⟩
 have dA:Hid (∀ w,(zeroValue 23).run Tryd.prog w = .ok (.agg (arr .u8 zn)) w):=acD (by intro w;rw [hzn];exact zero_num w)
 have cK:Hid (zn.length=32):=acD (by rw [hzn];rfl)
 obtain ⟨zs,hzs⟩:∃ zs:List Int,zs=acE 64 0:=⟨_,rfl⟩
 have HZzs:Hid (∀ w,(zeroValue 25).run Tryd.prog w = .ok (.agg (arr .u8 zs)) w):=acD (by intro w;rw [hzs];exact GV w)
 have HLzs:Hid (zs.length=64):=acD (by rw [hzs];rfl)
 have HZS:Hid (zs=aW (acE 64 0)):=acD (by rw [hzs,jf])
 have bQ:=acD (bM.four w (arr .u8 x0) (arr .u8 y0) (arr .u8 zn) (arr .u8 zs) 23 23 23 25)
 clear hzn hzs Fx hxs hys hx0 hy0 hro hso hT ha hb
 go_enter Tryd.func62, Tryd.ntmps62
 go_wp2_with (first|((with_reducible refine aS 4 ?_);refine aj rfl 23 rfl _ (dA.out _) ?_)|((with_reducible refine aS 5 ?_);refine aj rfl 25 rfl _ (HZzs.out _) ?_))
 go_loopw [6,7] (fun cv iv wr=>∃ (i c:Nat) (ss:List Nat),i≤33∧iv = .int .i64 i∧cv = .int .i64 c∧c≤1∧ss.length=64∧(∀ x∈ss,x < 256)∧(∀ j,i≤j→ss.getD j 0=0)∧val 256 (ss.take i)+256 ^ i * c=val 256 (xs.take i)+val 256 (ys.take i)∧bM w wr [(w.heap.size,arr .u8 x0, 23),(w.heap.size+1,arr .u8 y0, 23),(w.heap.size+1+1,arr .u8 zn, 23),(w.heap.size+1+1+1,arr .u8 (aW ss), 25)]) (fun _ iv _=>33 - (intOf iv).toNat)
 case atStart=>exact ⟨0,0,acE 64 0,acI _,rfl,rfl,acI _,by simp,by simp,(fun k _=>by simp only [acJ,List.getElem?_replicate];split <;> rfl),by simp [val],by rw [← HZS.out];exact bQ.out⟩
 clear bQ
 case round =>
 obtain ⟨i,c,ss,hi,rfl,rfl,hc,hsl,hsb,hsz,hv,hB⟩:=hrel
 by_cases hlt:i < 33
 ·have q2:=aP (hB.get 3 rfl) i (by rw [aJ,hsl];omega)
  have q3:=aC (hB.get 3 rfl) i
  have x1:=dx XB.out (by decide) i
  have y1:=dx YB.out (by decide) i
  have st:=fun s c' hs=>Ju 256 i _ _ _ (xs.getD i 0) (ys.getD i 0) c s c' hv hs
  have vm:=fun s=>kL 256 ss i s (by omega)
  rw [← bS 256 xs i (by rw [XL.out];exact hlt),← bS 256 ys i (by rw [YL.out];exact hlt)] at st
  have xg:=XG.out i hlt
  have yg:=YG.out i hlt
  have q0:i < 32→wr.cell? ⟨w.heap.size,i,none⟩=some (.int .u8 ((xs.getD i 0:Nat):Int)):=fun e=>by
   rw [aP (hB.get 0 rfl) i (by rw [X0L.out];exact e),X0G.out,← xg,if_pos e]
  have q1:i < 32→wr.cell? ⟨w.heap.size+1,i,none⟩=some (.int .u8 ((ys.getD i 0:Nat):Int)):=fun e=>by
   rw [aP (hB.get 1 rfl) i (by rw [Y0L.out];exact e),Y0G.out,← yg,if_pos e]
  have xz:¬ i < 32→xs.getD i 0=0:=fun e=>by rw [← xg,if_neg e]
  have yz:¬ i < 32→ys.getD i 0=0:=fun e=>by rw [← yg,if_neg e]
  clear xg yg
  generalize xs.getD i 0=x at q0 x1 st xz
  generalize ys.getD i 0=y at q1 y1 st yz
  by_cases h32:i < 32
  ·skip
   have q0:=q0 h32
   have q1:=q1 h32
   have ha:=qX (x+y+c) (by omega)
   rw [show ((x+y+c:Nat):Int)=(c:Int)+(x:Int)+(y:Int) by omega] at ha
   have hst:=st ((x+y+c) % 256) ((x+y+c) / 256) (by omega)
   rw [← vm] at hst
   have hb1:=hB.cell 3 rfl i (.int .u8 (bits .and .i64 ((c:Int)+(x:Int)+(y:Int)) 255 % 256))
   have e2:(arr .u8 (aW ss)).setIfInBounds i (.int .u8 (bits .and .i64 ((c:Int)+(x:Int)+(y:Int)) 255 % 256))=arr .u8 (aW (ss.set i ((x+y+c) % 256))):=by rw [ha,show (((((x+y+c) % 256):Nat):Int) % 256)=((((x+y+c) % 256):Nat):Int) by omega,bf,← dw]
   have HB1:=acD (hb1.cast (l':=[(w.heap.size,arr .u8 x0, 23),(w.heap.size+1,arr .u8 y0, 23),(w.heap.size+1+1,arr .u8 zn, 23),(w.heap.size+1+1+1,arr .u8 (aW (ss.set i ((x+y+c) % 256))), 25)]) (by rw [← e2];rfl))
   have HST:=acD hst
   have HSL:Hid ((ss.set i ((x+y+c) % 256)).length=64):=acD (by rw [acN,hsl])
   have QI:Hid (∀ z∈ss.set i ((x+y+c) % 256),z < 256):=acD (jI hsb i ((x+y+c) % 256) (acH _ (by decide)))
   have xI:Hid (∀ j,i+1≤j→(ss.set i ((x+y+c) % 256)).getD j 0=0):=acD (by intro j hj;have e:=hsz j (by omega);simp only [acJ] at e ⊢; rw [acO (by omega)];exact e)
   clear hb1 e2 hst st vm hB hsl hsb hsz hv ha xz yz
   go_wp2_with fail
   go_region
   go_wp2_with fail
   go_roundw
   case rel=>exact ⟨i+1,((x+y+c) / 256),_,by omega,by go_num,by go_num,by omega,HSL.out,QI.out,xI.out,HST.out,HB1.out.drew⟩
   case measure=>simp [intOf];omega
  ·skip
   obtain rfl:=xz h32
   obtain rfl:=yz h32
   have ha:=qX c (by omega)
   have hst:=st (c % 256) (c / 256) (by omega)
   rw [← vm] at hst
   have hb1:=hB.cell 3 rfl i (.int .u8 (bits .and .i64 (c:Int) 255 % 256))
   have e2:(arr .u8 (aW ss)).setIfInBounds i (.int .u8 (bits .and .i64 (c:Int) 255 % 256))=arr .u8 (aW (ss.set i (c % 256))):=by rw [ha,show ((((c % 256):Nat):Int) % 256)=(((c % 256):Nat):Int) by omega,bf,← dw]
   have HB1:=acD (hb1.cast (l':=[(w.heap.size,arr .u8 x0, 23),(w.heap.size+1,arr .u8 y0, 23),(w.heap.size+1+1,arr .u8 zn, 23),(w.heap.size+1+1+1,arr .u8 (aW (ss.set i (c % 256))), 25)]) (by rw [← e2];rfl))
   have HST:=acD hst
   have HSL:Hid ((ss.set i (c % 256)).length=64):=acD (by rw [acN,hsl])
   have QI:Hid (∀ z∈ss.set i (c % 256),z < 256):=acD (jI hsb i (c % 256) (acH _ (by decide)))
   have xI:Hid (∀ j,i+1≤j→(ss.set i (c % 256)).getD j 0=0):=acD (by intro j hj;have e:=hsz j (by omega);simp only [acJ] at e ⊢; rw [acO (by omega)];exact e)
   clear hb1 e2 hst st vm hB hsl hsb hsz hv ha xz yz q0 q1
   go_wp2_with fail
   go_roundw
   case rel=>exact ⟨i+1,(c / 256),_,by omega,by go_num,by go_num,by omega,HSL.out,QI.out,xI.out,HST.out,HB1.out⟩
   case measure=>simp [intOf];omega
 ·obtain rfl:i=33:=by omega
  rw [acK (acL XL.out),acK (acL YL.out),XV.out,YV.out] at hv
  have hvt:=Vb 64 33 ss hsl (by decide) hsz
  have hab:=HAB.out
  have hc0:c=0:=by
   rcases (show c=0∨c=1 by omega) with h|h
   ·exact h
   ·subst h;omega
  subst hc0
  rw [Nat.mul_zero,Nat.add_zero,← hvt] at hv
  have hd:=qp 256 (by decide) 64 (a+b) ss hsl hsb hv
  rw [hd,← HSO.out] at hB
  have HB:=acD hB
  clear hB hv hvt hab hd hsl hsb hsz hc
  go_wp2_with (first|((with_reducible show Calls _ 84 _ _ _);go_at_call 84; refine lC (Uj.out _ (Ht (HB.out.get 3 rfl) 64 HS64.out) (HT.out.below HB.out.below)) HB ?_;intro w6 ko)|((with_reducible refine aT 4 ?_);refine lS rfl rfl ko 2 rfl rfl rfl (ay _ _ Jy.out cK.out) (bE Jy.out) (av _ _) ?_;intro w7 eG))
  (try simp only [Exit.inBlock,Exit.then])
  refine bodyPost_ret (results_cell_row rfl _ _ (w.heap.size+1+1) 23 _ (0,0) _ rfl (eG.out.get 2 rfl) Tryd.underlying23 rfl (bE Jy.out)) rfl ?_
  exact ⟨rfl,eG.out.below⟩
end Go.Proofs.YthdgbgleklkaiaaDoor.Rd
