/- The document's MulQ: The document's wide: The document's parts and Public: portcullislaw16.alive: The document's CheckCert, CheckStop. Condition: as each theorem says. -/

import Derived.Test.YthdgbgleklkaiaaDoorQb03
import Derived.Test.YthdgbgleklkaiaaDoorQb05
import Derived.Test.YthdgbgleklkaiaaDoorQb15
import Derived.Test.YthdgbgleklkaiaaDoorQb17
import Derived.Test.YthdgbgleklkaiaaDoorQb20
import Derived.Test.YthdgbgleklkaiaaDoorQb21
import Derived.Test.YthdgbgleklkaiaaDoorQb22
import Derived.Test.YthdgbgleklkaiaaDoorQb23
import Derived.Test.YthdgbgleklkaiaaDoorQb24
import Derived.Test.YthdgbgleklkaiaaDoorQb27
import Derived.Test.YthdgbgleklkaiaaDoorQb28
open Go.Lib renaming hid→acD
open List renaming replicate→acE,take_of_length_le→acF,getD→acI,length_take→acJ,take_zero→acO,length_set→acP,length_drop→acR,length_map→acT
open Nat renaming zero_le→acG,le_of_eq→acH
open Int renaming natCast_add→acQ
set_option linter.unusedSimpArgs false
set_option linter.unusedVariables false
set_option maxRecDepth 100000
set_option maxHeartbeats 16000000
namespace Go.Proofs.YthdgbgleklkaiaaDoor.Rd
open Go.RowKit Lm Sc
theorem UG (w:World):(zeroValue 131).run Tryd.prog w = .ok (.agg (arr .i64 (acE 64 0))) w:=by kernel_rfl
theorem Sk (xs ys us:List Nat) (i k B:Nat) (hk:k < ys.length) (hl:i+k < us.length) (hv:val 256 us=val 256 (xs.take i) * B+256 ^ i * xs.getD i 0 * val 256 (ys.take k)) :
  val 256 (us.set (i+k) (us.getD (i+k) 0+xs.getD i 0 * ys.getD k 0))=val 256 (xs.take i) * B+256 ^ i * xs.getD i 0 * val 256 (ys.take (k+1)):=by
 have h:=nH 256 us (i+k) (us.getD (i+k) 0+xs.getD i 0 * ys.getD k 0) hl
 rw [bS _ _ _ hk,Nat.mul_add,← Nat.add_assoc,← hv]
 have e:256 ^ (i+k) * (us.getD (i+k) 0+xs.getD i 0 * ys.getD k 0)=256 ^ (i+k) * us.getD (i+k) 0+256 ^ i * xs.getD i 0 * (256 ^ k * ys.getD k 0):=by
  rw [Nat.mul_add,Nat.pow_add]
  grind
 omega
theorem KI (xs ys us:List Nat) (i k:Nat) (hx:∀ x∈xs,x < 256) (hy:∀ x∈ys,x < 256) (hl:i+k < us.length) (hb:∀ n,us.getD n 0≤65025 * (i+if i≤n∧n < i+k then 1 else 0)) :
  ∀ n,(us.set (i+k) (us.getD (i+k) 0+xs.getD i 0 * ys.getD k 0)).getD n 0≤65025 * (i+if i≤n∧n < i+(k+1) then 1 else 0):=by
 intro n
 have h1:=dx hx (by decide) i
 have h2:=dx hy (by decide) k
 have h3:xs.getD i 0 * ys.getD k 0≤255 * 255:=Nat.mul_le_mul (by omega) (by omega)
 by_cases e:n=i+k
 ·subst e
  have h:=hb (i+k)
  have eg:(us.set (i+k) (us.getD (i+k) 0+xs.getD i 0 * ys.getD k 0)).getD (i+k) 0=us.getD (i+k) 0+xs.getD i 0 * ys.getD k 0:=by simp [acI,hl]
  rw [eg]
  rw [if_neg (by omega)] at h
  rw [if_pos (by omega)]
  omega
 ·have h:=hb n
  have eg:(us.set (i+k) (us.getD (i+k) 0+xs.getD i 0 * ys.getD k 0)).getD n 0=us.getD n 0:=by
   simp only [acI]
   rw [List.getElem?_set_ne (fun e'=>e e'.symm)]
  rw [eg]
  by_cases e2:i≤n∧n < i+k
  ·rw [if_pos e2] at h
   rw [if_pos (by omega)]
   exact h
  ·rw [if_neg e2] at h
   rw [if_neg (by omega)]
   exact h
theorem WC {a b:Nat} (ha:a < 256 ^ 32) (hb:b < 256 ^ 32):a * b < 256 ^ 64:=by
 rw [show (64:Nat)=32+32 from rfl,Nat.pow_add]
 exact Nat.mul_lt_mul_of_lt_of_lt ha hb
theorem M9 (k S c X t s c':Nat) (h:S+256 ^ k * c=X) (hs:s+256 * c'=c+t):(S+256 ^ k * s)+256 ^ (k+1) * c'=X+256 ^ k * t:=by
 have e:256 ^ k * (s+256 * c')=256 ^ k * (c+t):=by rw [hs]
 rw [Nat.pow_succ]
 grind
theorem WA (a b:Nat) (w:World) (ha:a < 256 ^ 32) (hb:b < 256 ^ 32) (hT:ni w) :
  Calls Tryd.prog 63 #[.agg (arr .u8 (aW (bD 256 32 a))), .agg (arr .u8 (aW (bD 256 32 b)))] w fun e w'=>e = .returned (.agg (arr .u8 (aW (bD 256 32 (a * b % q)))))∧Below w.heap.size w w':=by
 have hab:=WC ha hb
 have hp64:∀ V,V < 256 ^ 64→V < 2 ^ 512:=fun V h=>by rw [show (256:Nat)=2 ^ 8 from rfl,← Nat.pow_mul,show 8 * 64=512 from rfl] at h;exact h
 have Fx:=fun w' ad cp (hs:Src w' ad 64 (aW (bD 256 64 (a * b)))) hT'=>rT ad cp (a * b) w' hs (hp64 _ hab) hT'
 obtain ⟨xs,hxs⟩:∃ r,r=bD 256 32 a:=⟨_,rfl⟩
 obtain ⟨ys,hys⟩:∃ r,r=bD 256 32 b:=⟨_,rfl⟩
 have XL:Hid (xs.length=32):=acD (by rw [hxs,aK])
 have YL:Hid (ys.length=32):=acD (by rw [hys,aK])
 have XB:Hid (∀ x∈xs,x < 256):=acD (by rw [hxs];exact ig 256 (by decide) _ _)
 have YB:Hid (∀ x∈ys,x < 256):=acD (by rw [hys];exact ig 256 (by decide) _ _)
 have XV:Hid (val 256 xs=a):=acD (by rw [hxs,zh a ha])
 have YV:Hid (val 256 ys=b):=acD (by rw [hys,zh b hb])
 have HAB:=acD hab
 obtain ⟨x0,hx0⟩:∃ r,r=aW xs:=⟨_,rfl⟩
 obtain ⟨y0,hy0⟩:∃ r,r=aW ys:=⟨_,rfl⟩
 have X0L:Hid (x0.length=32):=acD (by rw [hx0,aJ,XL.out])
 have Y0L:Hid (y0.length=32):=acD (by rw [hy0,aJ,YL.out])
 have X0G:Hid (∀ k,x0.getD k 0=((xs.getD k 0:Nat):Int)):=acD (fun k=>by rw [hx0,bG])
 have Y0G:Hid (∀ k,y0.getD k 0=((ys.getD k 0:Nat):Int)):=acD (fun k=>by rw [hy0,bG])
 rw [← hxs,← hys,← hx0,← hy0]
 obtain ⟨ro,hro⟩:∃ r,r=aW (bD 256 32 (a * b % q)):=⟨_,rfl⟩
 have Jy:Hid (ro.length=32):=acD (by rw [hro,aJ,aK])
 rw [← hro] at Fx ⊢
 obtain ⟨so,hso⟩:∃ r,r=aW (bD 256 64 (a * b)):=⟨_,rfl⟩
 have HS64:Hid (so.length=64):=acD (by rw [hso,aJ,aK])
 have HSO:=acD hso
 rw [← hso] at Fx
 have Uj:Hid (∀ (w':World) {ad:Option Addr} {cp:Nat},Src w' ad 64 so→ni w'→Calls Tryd.prog 84 #[.slice ad 64 cp] w' fun e w''=>e = .returned (.agg (arr .u8 ro))∧Below w'.heap.size w' w''):=acD (fun w' ad cp h1 h2=>Fx w' ad cp h1 h2)
 have HT:=acD hT
 obtain ⟨zn,hzn⟩:∃ zs:List Int,zs=acE 32 0:=⟨_,rfl⟩
 have dA:Hid (∀ w,(zeroValue 23).run Tryd.prog w = .ok (.agg (arr .u8 zn)) w):=acD (by intro w;rw [hzn];exact zero_num w)
 have cK:Hid (zn.length=32):=acD (by rw [hzn];rfl)
 obtain ⟨zs,hzs⟩:∃ zs:List Int,zs=acE 64 0:=⟨_,rfl⟩
 have HZzs:Hid (∀ w,(zeroValue 25).run Tryd.prog w = .ok (.agg (arr .u8 zs)) w):=acD (by intro w;rw [hzs];exact GV w)
 have HLzs:Hid (zs.length=64):=acD (by rw [hzs];rfl)
 obtain ⟨zt,Cq⟩:∃ zs:List Int,zs=acE 64 0:=⟨_,rfl⟩
 have HZzt:Hid (∀ w,(zeroValue 131).run Tryd.prog w = .ok (.agg (arr .i64 zt)) w):=acD (by intro w;rw [Cq];exact UG w)
 have HZS:Hid (zs=aW (acE 64 0)):=acD (by rw [hzs,jf])
 have HZT:Hid (zt=aW (acE 64 0)):=acD (by rw [Cq,jf])
 have bQ:=acD (bM.four w (arr .u8 x0) (arr .u8 y0) (arr .u8 zn) (arr .i64 zt) 23 23 23 131)
 have hg0:∀ k,(acE 64 (0:Nat)).getD k 0=0:=fun k=>by simp only [acI,List.getElem?_replicate];split <;> rfl
 have HG0:=acD hg0
 clear hzn hzs Cq Fx hx0 hy0 hxs hys hro hso hT ha hb hg0 hab hp64
 go_enter Tryd.func63, Tryd.ntmps63
 go_wp2_with (first|((with_reducible refine aS 4 ?_);refine aj rfl 23 rfl _ (dA.out _) ?_)|((with_reducible refine aS 5 ?_);refine aj rfl 131 rfl _ (HZzt.out _) ?_))
 go_loopw [6] (fun v wr=>∃ i:Nat,i≤32∧v = .int .i64 i∧∃ ts:List Nat,ts.length=64∧(∀ n,ts.getD n 0≤65025 * i)∧val 256 ts=val 256 (xs.take i) * b∧bM w wr [(w.heap.size,arr .u8 x0, 23),(w.heap.size+1,arr .u8 y0, 23),(w.heap.size+1+1,arr .u8 zn, 23),(w.heap.size+1+1+1,arr .i64 (aW ts), 131)]) (fun v _=>32 - (intOf v).toNat)
 case atStart=>exact ⟨0,acG _,rfl,acE 64 0,by simp,(fun n=>by rw [HG0.out n];omega),(by rw [mJ,acO];simp [val]),by rw [← HZT.out];exact bQ.out⟩
 clear bQ
 case round =>
 obtain ⟨i,hi,rfl,ts,tl,Ut,tv,hB⟩:=hrel
 by_cases hlt:i < 32
 ·have HB:=acD hB
  have qZ:=acD tl
  have HTB:=acD Ut
  have HTV:=acD tv
  clear hB tl Ut tv
  go_wp2_with fail
  generalize Value.bool (decide ((i:Int) < 32))=ub'
  go_loopw [7] (fun v wr=>∃ k:Nat,k≤32∧v = .int .i64 k∧∃ us:List Nat,us.length=64∧(∀ n,us.getD n 0≤65025 * (i+if i≤n∧n < i+k then 1 else 0))∧val 256 us=val 256 (xs.take i) * b+256 ^ i * xs.getD i 0 * val 256 (ys.take k)∧bM w wr [(w.heap.size,arr .u8 x0, 23),(w.heap.size+1,arr .u8 y0, 23),(w.heap.size+1+1,arr .u8 zn, 23),(w.heap.size+1+1+1,arr .i64 (aW us), 131)]) (fun v _=>32 - (intOf v).toNat)
  case atStart=>exact ⟨0,acG _,rfl,ts,qZ.out,(by intro n;rw [if_neg (by omega)];exact HTB.out n),(by rw [HTV.out,acO];simp [val]),HB.out⟩
  case round =>
   obtain ⟨k,hk,rfl,us,ul,ub,uv,hU⟩:=hrel
   by_cases hlk:k < 32
   ·have q0:=aP (hU.get 0 rfl) i (by rw [X0L.out];exact hlt)
    have q1:=aP (hU.get 1 rfl) k (by rw [Y0L.out];exact hlk)
    have q2:=aP (hU.get 3 rfl) (i+k) (by rw [aJ,ul];omega)
    have q3:=aC (hU.get 3 rfl) (i+k)
    rw [X0G.out] at q0
    rw [Y0G.out] at q1
    rw [bG] at q2
    have pb:=KI xs ys us i k XB.out YB.out (by omega) ub
    have ps:=Sk xs ys us i k b (by rw [YL.out];exact hlk) (by omega) uv
    have ub0:=ub (i+k)
    rw [if_neg (by omega)] at ub0
    have x1:=dx XB.out (by decide) i
    have y1:=dx YB.out (by decide) k
    have hp:xs.getD i 0 * ys.getD k 0≤255 * 255:=Nat.mul_le_mul (by omega) (by omega)
    have HPB:=acD pb
    have FZ:=acD ps
    obtain ⟨vs,hvs⟩:∃ vs,vs=us.set (i+k) (us.getD (i+k) 0+xs.getD i 0 * ys.getD k 0):=⟨_,rfl⟩
    have Em:Hid (vs.length=64):=acD (by rw [hvs,acP,ul])
    rw [← hvs] at HPB FZ
    have hpi:((xs.getD i 0 * ys.getD k 0:Nat):Int)=(xs.getD i 0:Int) * (ys.getD k 0:Int):=Int.natCast_mul _ _
    have hb1:=hU.cell 3 rfl (i+k) (.int .i64 ((us.getD (i+k) 0:Int)+(xs.getD i 0:Int) * (ys.getD k 0:Int)))
    have e2:(arr .i64 (aW us)).setIfInBounds (i+k) (.int .i64 ((us.getD (i+k) 0:Int)+(xs.getD i 0:Int) * (ys.getD k 0:Int)))=arr .i64 (aW vs):=by rw [← hpi,← acQ,bf,← dw,hvs]
    have HU1:=acD (hb1.cast (l':=[(w.heap.size,arr .u8 x0, 23),(w.heap.size+1,arr .u8 y0, 23),(w.heap.size+1+1,arr .u8 zn, 23),(w.heap.size+1+1+1,arr .i64 (aW vs), 131)]) (by rw [← e2];rfl))
    clear hb1 e2 hvs hU ul ub uv pb ps
    generalize us.getD (i+k) 0=u at q2 ub0 HU1
    generalize xs.getD i 0=x at q0 hp hpi FZ HU1 x1
    generalize ys.getD k 0=y at q1 hp hpi HU1 y1
    have hr1:0≤(x:Int) * (y:Int)∧(x:Int) * (y:Int)≤65025:=by rw [← hpi];omega
    clear hp hpi
    go_wp2_with fail
    go_region
    go_wp2_with fail
    go_roundw
    case rel=>exact ⟨k+1,by omega,by go_num,vs,Em.out,HPB.out,FZ.out,HU1.out.drew⟩
    case measure=>simp [intOf];omega
   ·obtain rfl:k=32:=by omega
    rw [acF (acH YL.out),YV.out] at uv
    have HU:=acD hU
    have JW:=acD ul
    have HUB:Hid (∀ n,us.getD n 0≤65025 * (i+1)):=acD (by
     intro n
     have:=ub n
     by_cases e:i≤n∧n < i+32
     ·rw [if_pos e] at this;omega
     ·rw [if_neg e] at this;omega)
    have HUV:Hid (val 256 us=val 256 (xs.take (i+1)) * b):=acD (by rw [uv,bS 256 xs i (by rw [XL.out];exact hlt),Nat.add_mul])
    clear hU ul ub uv HB qZ HTB HTV
    go_wp2_with fail
    go_roundw
    case rel=>exact ⟨i+1,by omega,by go_num,us,JW.out,HUB.out,HUV.out,HU.out⟩
    case measure=>simp [intOf];omega
 ·obtain rfl:i=32:=by omega
  rw [acF (acH XL.out),XV.out] at tv
  have HB:=acD (hB.alloc (arr .u8 zs) 25)
  have qZ:=acD tl
  have HTB:=acD Ut
  have HTV:=acD tv
  clear hB tl Ut tv
  go_wp2_with (first|((with_reducible refine aS 8 ?_);refine aj rfl 25 rfl _ (HZzs.out _) ?_))
  generalize wr.heap.size=gs at HB ⊢
  go_loopw [9,10] (fun cv jv wq=>∃ (j c:Nat) (ss:List Nat),j≤64∧jv = .int .i64 j∧cv = .int .i64 c∧c≤10000∧ss.length=64∧(∀ x∈ss,x < 256)∧val 256 (ss.take j)+256 ^ j * c=val 256 (ts.take j)∧bM w wq [(w.heap.size,arr .u8 x0, 23),(w.heap.size+1,arr .u8 y0, 23),(w.heap.size+1+1,arr .u8 zn, 23),(w.heap.size+1+1+1,arr .i64 (aW ts), 131),(gs,arr .u8 (aW ss), 25)]) (fun _ jv _=>64 - (intOf jv).toNat)
  case atStart=>exact ⟨0,0,acE 64 0,acG _,rfl,rfl,acG _,by simp,by simp,by simp [val],by rw [← HZS.out];exact HB.out⟩
  case round =>
   obtain ⟨j,c,ss,hj,rfl,rfl,hc,hsl,hsb,hv,hQ⟩:=hrel
   by_cases hlj:j < 64
   ·have q0:=aP (hQ.get 3 rfl) j (by rw [aJ,qZ.out];exact hlj)
    have q2:=aP (hQ.get 4 rfl) j (by rw [aJ,hsl];exact hlj)
    have q3:=aC (hQ.get 4 rfl) j
    rw [bG] at q0
    have t1:=HTB.out j
    have st:=fun s c' hs=>M9 j _ c _ (ts.getD j 0) s c' hv hs
    have vm:=fun s=>kL 256 ss j s (by omega)
    rw [← bS 256 ts j (by rw [qZ.out];exact hlj)] at st
    generalize ts.getD j 0=t at q0 t1 st
    have hst:=st ((c+t) % 256) ((c+t) / 256) (by omega)
    rw [← vm] at hst
    have ha:=qX (c+t) (by omega)
    rw [acQ] at ha
    have hb1:=hQ.cell 4 rfl j (.int .u8 (bits .and .i64 ((c:Int)+(t:Int)) 255 % 256))
    have e2:(arr .u8 (aW ss)).setIfInBounds j (.int .u8 (bits .and .i64 ((c:Int)+(t:Int)) 255 % 256))=arr .u8 (aW (ss.set j ((c+t) % 256))):=by rw [ha,show ((((c+t) % 256:Nat):Int) % 256)=(((c+t) % 256:Nat):Int) by omega,bf,← dw]
    have HQ1:=acD (hb1.cast (l':=[(w.heap.size,arr .u8 x0, 23),(w.heap.size+1,arr .u8 y0, 23),(w.heap.size+1+1,arr .u8 zn, 23),(w.heap.size+1+1+1,arr .i64 (aW ts), 131),(gs,arr .u8 (aW (ss.set j ((c+t) % 256))), 25)]) (by rw [← e2];rfl))
    have HST:=acD hst
    have HSL:Hid ((ss.set j ((c+t) % 256)).length=64):=acD (by rw [acP,hsl])
    have QI:Hid (∀ z∈ss.set j ((c+t) % 256),z < 256):=acD (jI hsb j ((c+t) % 256) (Nat.mod_lt _ (by decide)))
    clear hb1 e2 hst st vm hQ hsl hsb hv ha
    go_wp2_with fail
    go_roundw
    case rel=>exact ⟨j+1,(c+t) / 256,_,by omega,by go_num,by go_num,by omega,HSL.out,QI.out,HST.out,HQ1.out⟩
    case measure=>simp [intOf];omega
   ·obtain rfl:j=64:=by omega
    rw [acF (acH hsl),acF (acH qZ.out),HTV.out] at hv
    have hab:=HAB.out
    have hc0:c=0:=by
     rcases Nat.eq_zero_or_pos c with h|h
     ·exact h
     ·have:256 ^ 64 * 1≤256 ^ 64 * c:=Nat.mul_le_mul_left _ h
      omega
    subst hc0
    rw [Nat.mul_zero,Nat.add_zero] at hv
    have hd:=qp 256 (by decide) 64 (a * b) ss hsl hsb hv
    rw [hd,← HSO.out] at hQ
    have HQ:=acD hQ
    clear hQ hv hab hd hsl hsb hc HB
    go_wp2_with (first|((with_reducible show Calls _ 84 _ _ _);go_at_call 84; refine lC (Uj.out _ (Ht (HQ.out.get 4 rfl) 64 HS64.out) (HT.out.below HQ.out.below)) HQ ?_;intro w6 ko)|((with_reducible refine aT 4 ?_);refine lS rfl rfl ko 2 rfl rfl rfl (ay _ _ Jy.out cK.out) (bE Jy.out) (av _ _) ?_;intro w7 eG))
    (try simp only [Exit.inBlock,Exit.then])
    refine bodyPost_ret (results_cell_row rfl _ _ (w.heap.size+1+1) 23 _ (0,0) _ rfl (eG.out.get 2 rfl) Tryd.underlying23 rfl (bE Jy.out)) rfl ?_
    exact ⟨rfl,eG.out.below⟩
end Go.Proofs.YthdgbgleklkaiaaDoor.Rd
namespace Go.Proofs.YthdgbgleklkaiaaDoor.Rd
open Go.RowKit Lm Fp Cu Sc
theorem iB {a b:World} (h:Hb.eP a) (k:Below a.heap.size a b):Hb.eP b:=fun t ht=>(Kept.of_below k (T:=fun _=>False)).l9 (h t ht) id
theorem h512:(2:Nat) ^ 512=256 ^ 64:=by
 have:=Nat.pow_mul 2 8 64
 rw [show 8 * 64=512 from rfl,show (2:Nat) ^ 8=256 from rfl] at this
 exact this
theorem own_src {w:World} {B:Nat} {v:Value} {xs:List Int} (h:aU w B v xs):∃ s c,v = .slice s xs.length c∧Src w s xs.length xs:=by
 obtain ⟨s,c,rfl,_,_,hs,_⟩:=h.form
 exact ⟨s,c,rfl,hs⟩
theorem G9 (sa:Option Addr) (n c:Nat) (L:List (List Int)) (w:World) (hs:oq w sa n L) (hb:∀ l∈L,bytes l) (hN:L.flatten.length≤1099511627776) (hn:n≤1099511627776) (hk:Hb.eP w) (hT:ni w) :
  Calls Tryd.prog 61 #[.slice sa n c] w fun e w'=>e = .returned (.agg (arr .u8 (n32 (wide L.flatten))))∧Below w.heap.size w w':=by
 have hbf:bytes L.flatten:=by intro x hx;obtain ⟨l,hl,hx⟩:=List.mem_flatten.1 hx;exact hb l hl x hx
 have hj:∀ (u:World),oq u sa n L→Calls Tryd.prog 83 #[.slice sa n c] u fun e w'=>∃ s cc,e = .returned (.slice s L.flatten.length cc)∧Src w' s L.flatten.length L.flatten∧Below u.heap.size u w':=by
  intro u h
  refine (WX sa n c L u h hN hn).mono ?_
  rintro e w' ⟨v,rfl,h1,h2⟩
  obtain ⟨s,cc,rfl,h3⟩:=own_src h1
  exact ⟨s,cc,rfl,h3,h2⟩
 have hsh:=fun (u:World) (s:Option Addr) (c:Nat) (h:Src u s L.flatten.length L.flatten) (hk:Hb.eP u)=>Hb.jL s L.flatten.length c L.flatten u h hbf (by omega) hk
 have hh:=qc L.flatten
 have hl:=Hb.dS L.flatten
 have hwd:wide L.flatten=fD (Hb.hash L.flatten) % q:=rfl
 rw [hwd]
 obtain ⟨hs',hhs⟩:∃ h,h=Hb.hash L.flatten:=⟨_,rfl⟩
 rw [← hhs] at hsh hh hl ⊢
 have hd:=Jh hh
 rw [hl] at hd
 have hV:=yK hh
 rw [hl] at hV
 obtain ⟨V,hVe⟩:∃ v,v=fD hs':=⟨_,rfl⟩
 rw [← hVe] at hd hV ⊢
 generalize hLL:L.flatten.length=m at hj hsh
 have Uj:Hid (∀ (sa:Option Addr) (u:World),Src u sa 64 hs'→ni u→Calls Tryd.prog 84 #[.slice sa 64 64] u fun e w'=>e = .returned (.agg (arr .u8 (n32 (V % q))))∧Below u.heap.size u w'):=acD (fun sa u h hT=>rT sa 64 V u (by rw [hd];exact h) (by rw [h512];exact hV) hT)
 obtain ⟨ro,hro⟩:∃ r,r=n32 (V % q):=⟨_,rfl⟩
 rw [← hro] at Uj ⊢
 have iG:Hid (ro.length=32):=acD (by rw [hro];exact bX _)
 have HJ:=acD hj
 have HSH:=acD hsh
 have HSL:=acD hl
 have HS:=acD hs
 have HK:=acD hk
 have HT:=acD hT
 obtain ⟨zn,hzn⟩:∃ zs:List Int,zs=acE 32 0:=⟨_,rfl⟩
 have dA:Hid (∀ w,(zeroValue 23).run Tryd.prog w = .ok (.agg (arr .u8 zn)) w):=acD (by intro w;rw [hzn];exact zero_num w)
 have cK:Hid (zn.length=32):=acD (by rw [hzn];rfl)
 obtain ⟨gy,pW⟩:∃ zs:List Int,zs=acE 64 0:=⟨_,rfl⟩
 have wC:Hid (∀ w,(zeroValue 26).run Tryd.prog w = .ok (.agg (arr .u8 gy)) w):=acD (by intro w;rw [pW];exact Sl.tT w)
 have tJ:Hid (gy.length=64):=acD (by rw [pW];rfl)
 have bQ:=acD (bM.one w (arr .u8 zn) 23)
 clear hLL hzn pW hs hb hbf hj hsh hh hl hwd hhs hd hV hVe hro hk hT hN hn
 go_enter Tryd.func61, Tryd.ntmps61
 go_upto_region 1 with (first|((with_reducible refine aS 2 ?_);refine aj rfl 23 rfl _ (dA.out _) ?_))
 (try simp only [World.size_alloc,Act.put,sA,sZ,sS])
 generalize (w.alloc (.cells (arr .u8 zn) 23))=wb at bQ ⊢
 go_upto_region 2 with (first|((with_reducible show Calls _ 83 _ _ _);go_at_call 83; refine (HJ.out _ (HS.out.below bQ.out.below)).mono ?_;rintro e w1 ⟨sj,cj,rfl,h1,hb1⟩;have HSJ:=acD h1;have HB1:=acD (bQ.out.kept hb1);clear h1 hb1)|((with_reducible show Calls _ 64 _ _ _);go_at_call 64; refine lC (HSH.out _ _ _ HSJ.out (iB HK.out HB1.out.below)) HB1 ?_;intro w2 HB2)|((with_reducible refine aS 3 ?_);refine lA rfl rfl (wC.out _) HB2 ?_;intro g5 w3 HB3)|((with_reducible refine aT 3 ?_);refine lS rfl rfl HB3 1 rfl rfl rfl (ay _ _ HSL.out tJ.out) (Sl.lD HSL.out) (av _ _) ?_;intro w4 HB4))
 (try simp only [World.size_alloc,Act.put,sA,sZ,sS])
 go_wp2_with (first|((with_reducible show Calls _ 84 _ _ _);go_at_call 84; refine lC (Uj.out _ _ (Sl.bO (HB4.out.get 1 rfl) 64 HSL.out) (HT.out.below HB4.out.below)) HB4 ?_;intro w5 fM)|((with_reducible refine aT 2 ?_);refine lS rfl rfl fM 0 rfl rfl rfl (ay _ _ iG.out cK.out) (bE iG.out) (av _ _) ?_;intro w6 ko))
 (try simp only [Exit.then])
 refine bodyPost_ret (results_cell_row rfl _ _ (w.heap.size) 23 _ (0,0) _ rfl (ko.out.get 0 rfl) Tryd.underlying23 rfl (bE iG.out)) rfl ?_
 exact ⟨rfl,ko.out.below⟩
end Go.Proofs.YthdgbgleklkaiaaDoor.Rd
namespace Go.Proofs.YthdgbgleklkaiaaDoor.Rd
open Go.RowKit Lm Fp Cu Sc
theorem zM (seed:Nat) (w:World) (hTK:Hb.eP w) :
  Calls Tryd.prog 48 #[.agg (arr .u8 (n32 seed))] w fun e w'=>∃ g c cur,e = .returned (.tuple #[.agg (arr .u8 (n32 (jR seed))), .slice (some ⟨g,0,none⟩) 32 c])∧(w'.heap[g]? = some (.cells cur 5 (0,0))∧w.heap.size≤g∧32≤c∧cur.toList.take 32=(jQ seed).map (Value.int .u8))∧Below w.heap.size w w':=by
 have hkb:=eY seed
 have hkl:=bX seed
 have hh:bytes (Hb.hash (n32 seed)):=qc (n32 seed)
 have hl:(Hb.hash (n32 seed)).length=64:=Hb.dS (n32 seed)
 have h32:(Hb.hash (n32 seed)).take 32=n32 (fD ((Hb.hash (n32 seed)).take 32)):=(uq (oh hh 32) (by rw [acJ,hl];rfl)).symm
 have hlt:fD ((Hb.hash (n32 seed)).take 32) < 2 ^ 256:=by
  have:=yK (oh hh 32)
  rw [acJ,hl] at this
  rwa [show (2:Nat) ^ 256=256 ^ 32 by decide]
 have hsp:jR seed=clamp (fD ((Hb.hash (n32 seed)).take 32)):=rfl
 have hsr:jQ seed=(Hb.hash (n32 seed)).drop 32:=rfl
 have hcl:=fun (u:World)=>xC (fD ((Hb.hash (n32 seed)).take 32)) u hlt
 rw [← hsp] at hcl
 rw [show aW (bD 256 32 (fD ((Hb.hash (n32 seed)).take 32)))=n32 (fD ((Hb.hash (n32 seed)).take 32)) from rfl,← h32] at hcl
 have hsh:=fun (u:World) (g:Nat) (t:TypeId) (h:u.heap[g]? = some (.cells (arr .u8 (n32 seed)) t (0,0))) (hk:Hb.eP u)=>Hb.jL (some ⟨g,0,none⟩) 32 32 (n32 seed) u (Sl.bO h 32 hkl) hkb (by decide) hk
 obtain ⟨sp,hspp⟩:∃ x,x=n32 (jR seed):=⟨_,rfl⟩
 rw [show aW (bD 256 32 (jR seed))=n32 (jR seed) from rfl,← hspp] at hcl
 rw [← hspp]
 have Bj:Hid (sp.length=32):=acD (by rw [hspp];exact bX _)
 rw [hsr]
 obtain ⟨ks,hks⟩:∃ x,x=n32 seed:=⟨_,rfl⟩
 rw [← hks] at hsh hl hcl hkl ⊢
 obtain ⟨hs,hhs⟩:∃ x,x=Hb.hash ks:=⟨_,rfl⟩
 rw [← hhs] at hsh hl hcl ⊢
 obtain ⟨hx0,hh0⟩:∃ x,x=hs.take 32:=⟨_,rfl⟩
 have hs0:=fun (u:World) (g:Nat) (h:u.heap[g]? = some (.cells (arr .u8 hs) 26 (0,0)))=>Sl.EH h 0 32 (by rw [hl];decide)
 rw [List.drop_zero,← hh0] at hs0
 rw [← hh0] at hcl
 have hs1:=fun (u:World) (g:Nat) (h:u.heap[g]? = some (.cells (arr .u8 hs) 26 (0,0)))=>Sl.EH h 32 32 (by rw [hl];decide)
 obtain ⟨hx1,yN⟩:∃ x,x=hs.drop 32:=⟨_,rfl⟩
 rw [← yN,acF (show hx1.length≤32 by rw [yN,acR,hl];decide)] at hs1
 rw [← yN]
 have H0L:Hid (hx0.length=32):=acD (by rw [hh0,acJ,hl];rfl)
 have H1L:Hid (hx1.length=32):=acD (by rw [yN,acR,hl])
 have kU:=acD hkl
 have HSL:=acD hl
 have nD:=acD hcl
 have HSH:=acD hsh
 have xJ:=acD hs0
 have iO:=acD hs1
 have wG:=acD hTK
 obtain ⟨zn,hzn⟩:∃ zs:List Int,zs=acE 32 0:=⟨_,rfl⟩
 have dA:Hid (∀ w,(zeroValue 23).run Tryd.prog w = .ok (.agg (arr .u8 zn)) w):=acD (by intro w;rw [hzn];exact zero_num w)
 have cK:Hid (zn.length=32):=acD (by rw [hzn];rfl)
 obtain ⟨gy,pW⟩:∃ zs:List Int,zs=acE 64 0:=⟨_,rfl⟩
 have wC:Hid (∀ w,(zeroValue 26).run Tryd.prog w = .ok (.agg (arr .u8 gy)) w):=acD (by intro w;rw [pW];exact Sl.tT w)
 have tJ:Hid (gy.length=64):=acD (by rw [pW];rfl)
 have HI0:=acD (bM.two w (arr .u8 ks) (arr .u8 zn) 23 23)
 clear hzn pW hkb hkl hh hl h32 hlt hsp hsr hcl hsh hspp hks hhs hh0 hs0 hs1 yN hTK
 go_enter Tryd.func48, Tryd.ntmps48
 go_upto_region 1 with (first|((with_reducible refine aS 2 ?_);refine aj rfl 23 rfl _ (dA.out _) ?_))
 (try simp only [World.size_alloc,Act.put,sA,sZ,sS])
 generalize ((w.alloc (.cells (arr .u8 ks) 23)).alloc (.cells (arr .u8 zn) 23))=wb at HI0 ⊢
 go_upto_region 2 with (first|((with_reducible show Calls _ 64 _ _ _);go_at_call 64; refine lC (HSH.out _ _ _ (HI0.out.get 0 rfl) (iB wG.out HI0.out.below)) HI0 ?_;intro w1 HI1)|((with_reducible refine aS 4 ?_);refine lA rfl rfl (wC.out _) HI1 ?_;intro g4 w2 HI2)|((with_reducible refine aT 4 ?_);refine lS rfl rfl HI2 2 rfl rfl rfl (ay _ _ HSL.out tJ.out) (Sl.lD HSL.out) (av _ _) ?_;intro w3 HI3))
 (try simp only [World.size_alloc,Act.put,sA,sZ,sS])
 go_upto_region 3 with (first|((with_reducible refine aS 5 ?_);refine lA rfl rfl (dA.out _) HI3 ?_;intro g5 w4 HI4))
 (try simp only [World.size_alloc,Act.put,sA,sZ,sS])
 refine gQ (fun (fF:Fill) (uF:World)=>(∀ v,fF 0=some v→v = .slice (some ⟨g5,0,none⟩) 32 32∧True)∧(∀ v,fF 1=some v→v = .slice (some ⟨g4,0,none⟩) 32 64∧True)∧(∀ v,fF 2=some v→v = .int .i64 ((32:Nat):Int)∧True)∧bM w uF ([(w.heap.size,arr .u8 ks, 23),(w.heap.size+1,arr .u8 zn, 23),(g4,arr .u8 hs, 26),(g5,(if (fF 2).isSome=true then arr .u8 hx0 else arr .u8 zn), 23)])) (by kernel_rfl) (by kernel_rfl) ?zs3 ?ss3 ?es3
 case zs3=>exact ⟨fun _ h=>(by cases h),fun _ h=>(by cases h),fun _ h=>(by cases h),HI4.out.drew⟩
 case ss3 =>
  refine bH.cons (fun fF bF uF kF fJ jX mF cB fZ gN=>?_) ?_
  ·obtain ⟨j0,j1,j2,hB⟩:=fJ
   have e5:bF.eval (.tmp 5) = .pointer (some ⟨g5,0,none⟩):=fZ.old' 5 (by kernel_rfl) rfl
   exact eF rfl (.slice (some ⟨g5,0,none⟩) 32 32) (by simp only [execOp,e5];first|rfl|(go_simp;done)) (gN _ _ ⟨fun _ h=>⟨sI h,trivial⟩,j1,j2,hB⟩)
  refine bH.cons (fun fF bF uF kF fJ jX mF cB fZ gN=>?_) ?_
  ·obtain ⟨j0,j1,j2,hB⟩:=fJ
   have e4:bF.eval (.tmp 4) = .pointer (some ⟨g4,0,none⟩):=fZ.old' 4 (by kernel_rfl) rfl
   exact eF rfl (.slice (some ⟨g4,0,none⟩) 32 64) (by simp only [execOp,e4];first|rfl|(go_simp;done)) (gN _ _ ⟨j0,fun _ h=>⟨sI h,trivial⟩,j2,hB⟩)
  refine bH.cons (fun fF bF uF kF fJ jX mF cB fZ gN=>?_) ?_
  ·obtain ⟨j0,j1,j2,hB⟩:=fJ
   obtain ⟨e8,p8⟩:=fZ.at cB 0 8 (by kernel_rfl) rfl j0
   obtain ⟨e9,p9⟩:=fZ.at cB 1 9 (by kernel_rfl) rfl j1
   have hB':=hB
   rw [jX] at hB'
   refine vB rfl (.tmp 8) (.tmp 9) rfl g5 0 32 32 64 ⟨g4,0,none⟩ zn hx0 23 e8 e9 (hB'.get 3 rfl) (xJ.out _ _ (hB'.get 2 rfl)) (by rw [cK.out];decide) ?_
   rw [copied cK.out H0L.out]
   intro w1 hb1 hk1
   have hB1:bM w w1 ([(w.heap.size,arr .u8 ks, 23),(w.heap.size+1,arr .u8 zn, 23),(g4,arr .u8 hs, 26),(g5,(if ((some (.int .i64 ((32:Nat):Int)):Option Value)).isSome=true then arr .u8 hx0 else arr .u8 zn), 23)]):=hB'.put 3 rfl hk1 hb1
   exact gN _ _ ⟨j0,j1,fun _ h=>⟨sI h,trivial⟩,hB1⟩
  exact bH.nil
 case es3 =>
 intro fF us3 hall fJ
 obtain ⟨j0,j1,j2,hB⟩:=fJ
 obtain ⟨v0,h0⟩:=sE (hall 0 (by decide))
 obtain ⟨rfl,p0⟩:=j0 _ h0
 obtain ⟨v1,h1⟩:=sE (hall 1 (by decide))
 obtain ⟨rfl,p1⟩:=j1 _ h1
 obtain ⟨v2,h2⟩:=sE (hall 2 (by decide))
 obtain ⟨rfl,p2⟩:=j2 _ h2
 rw [h2] at hB
 have HBs3:Hid (bM w us3 [(w.heap.size,arr .u8 ks, 23),(w.heap.size+1,arr .u8 zn, 23),(g4,arr .u8 hs, 26),(g5,arr .u8 hx0, 23)]):=acD hB
 simp only [laid,Nat.zero_add,Nat.reduceAdd,h0,h1,h2,Act.put,sA,sZ,sS]
 clear j0 j1 j2 hB h0 h1 h2 hall fF HI4
 clear p0 p1 p2
 (try simp only [Exit.then])
 go_upto_region 4 with fail
 (try simp only [World.size_alloc,Act.put,sA,sZ,sS])
 refine wp_region_held_drew (S:=fun _=>True) (by kernel_rfl) trivial (fun hHeld=>?_)
 have eB:=acD (HBs3.out.drew)
 generalize us3.drew=wd at eB ⊢
 refine wpAnyH_take (i:=2) (oi:=(⟨some 13,_,_,_,_,none⟩:Oper)) (v := .slice (some ⟨g4,32,none⟩) 32 32) rfl (by kernel_rfl) (by kernel_rfl) (by kernel_rfl) (fun _ _ _ h=>h) (Or.inl ⟨by rfl,?hy5301⟩) trivial ?VN
 case hy5301=>(intro w _;(try dsimp only);go_simp;try (with_reducible rfl))
 (try simp only [Act.put,sA,sZ,sS])
 refine wpAnyH_ready (rs:=[0]) (by kernel_rfl) (by simp) ?_
 refine AllReadyH.cons (o:=(⟨some 11,_,_,_,_,none⟩:Oper)) rfl (fun K hK=>?_) AllReadyH.nil
 refine eZ rfl 23 _ rfl g5 0 (arr .u8 hx0) 23 (0,0) _ (eB.out.get 3 rfl) rfl .u8 hx0 (au _ _) Tryd.underlying23 rfl (bU H0L.out) ?_
 refine hK.out _ _ trivial (fun _=>?_)
 clear hK K
 (try simp only [Act.put,sA,sZ,sS])
 refine wpAnyH_ready (rs:=[1]) (by kernel_rfl) (by simp) ?_
 refine AllReadyH.cons (o:=(⟨some 12,_,_,_,_,none⟩:Oper)) rfl (fun K hK=>?_) AllReadyH.nil
 go_simp
 go_at_call 65
 refine (nD.out _).mono ?_
 rintro e w5 ⟨rfl,hb5⟩
 have fM:=acD (eB.out.kept hb5)
 clear hb5
 (try dsimp only)
 refine hK.out _ _ trivial (fun _=>?_)
 clear hK K
 (try simp only [Act.put,sA,sZ,sS])
 refine wpAnyH_ready (rs:=[3]) (by kernel_rfl) (by simp) ?_
 refine AllReadyH.cons (o:=(⟨some 14,_,_,_,_,none⟩:Oper)) rfl (fun K hK=>?_) AllReadyH.nil
 refine d9 rfl (.const (.slice none 0 0)) (.tmp 13) rfl w5.heap.size _ [] rfl (aU.nil _ _) _ 32 32 hx1 rfl (iO.out _ _ (fM.out.get 2 rfl)) (by decide) (Nat.le_refl _) ?_
 rw [List.nil_append]
 intro vf w6 hown hgr _ _
 have hb6:Below w5.heap.size w5 w6:=aQ (aU.nil w5 w5.heap.size) hgr (Below.refl _ _) (Nat.le_refl _)
 obtain ⟨-, ho⟩:=hown
 rcases ho with ⟨-, h0'⟩|⟨gf,cap,cur,rfl,hBg,hgf,hn,hm,hsz,ht⟩
 ·exact absurd h0' (by rw [H1L.out];decide)
 rw [H1L.out] at hn ht
 have HBf:=acD (Sl.bM.add fM.out hb6 hgf hBg)
 have HC:=acD hn
 have HT':=acD ht
 rw [H1L.out]
 clear hgr hb6 hBg hgf hn hm hsz ht
 refine hK.out _ _ trivial (fun _=>?_)
 clear hK K
 (try simp only [Act.put,sA,sZ,sS])
 refine wpAnyH_ready (rs:=[4]) (by kernel_rfl) (by simp) ?_
 refine AllReadyH.cons (o:=(⟨none,_,_,_,_,none⟩:Oper)) rfl (fun K hK=>?_) AllReadyH.nil
 refine aH rfl 23 (.tmp 2) (.tmp 12) rfl (w.heap.size+1) _ _ 23 (HBf.out.get 1 rfl) rfl rfl (ay _ _ Bj.out cK.out) (bE Bj.out) (av _ _) ?_
 intro w7 dR iw kS
 have eG:=acD (HBf.out.put 1 rfl iw dR)
 clear dR iw kS
 refine hK.out _ _ trivial (fun _=>?_)
 clear hK K
 (try simp only [Act.put,sA,sZ,sS])
 refine wpAnyH_take (i:=5) (oi:=(⟨some 3,_,_,_,_,none⟩:Oper)) (v := .slice (some ⟨gf,0,none⟩) 32 cap) rfl (by kernel_rfl) (by kernel_rfl) (by kernel_rfl) (fun _ _ _ h=>h) (Or.inl ⟨by rfl,?hy5302⟩) trivial ?rest5302
 case hy5302=>(intro w _;(try dsimp only);first|rfl|kernel_rfl)
 (try simp only [Act.put,sA,sZ,sS])
 refine wpAnyH_done (by kernel_rfl) ?_ _
 (try simp only [Exit.then])
 go_wp2_with fail
 refine bodyPost_ret (aV rfl _ _ (w.heap.size+1) 23 _ (0,0) _ _ rfl (eG.out.get 1 rfl) Tryd.underlying23 rfl (bE Bj.out) rfl) rfl ?_
 exact ⟨gf,cap,cur,rfl,⟨eG.out.get 4 rfl,eG.out.low 4 rfl,HC.out,by rw [HT'.out]⟩,eG.out.below⟩
theorem wY (seed:Nat) (w:World) (SS:vW w) (hTX:Ub w) (hTY:Ua w) (hTK:Hb.eP w) :
  Calls Tryd.prog 34 #[.agg (arr .u8 (n32 seed))] w fun e w'=>e = .returned (.agg (arr .u8 (n32 (xY seed))))∧Below w.heap.size w w':=by
 have hpa:=fun (u:World) (h:Hb.eP u)=>zM seed u h
 have uG:=fun (ps:List Int) (P:Pt) (u:World) (h1:mG ps P) (h2:vW u)=>Iw ps P (jR seed) u h1 h2
 have hw1:=fun (ps:List Int) (u:World) (h:mG ps (ku base (jR seed) 256))=>wT ps _ u h
 rw [show lK (ku base (jR seed) 256)=xY seed from rfl] at hw1
 obtain ⟨l1,hl1⟩:∃ x,x=n32 (xY seed):=⟨_,rfl⟩
 rw [show aW (bD 256 32 (xY seed))=n32 (xY seed) from rfl,← hl1] at hw1
 rw [← hl1]
 have nC:Hid (l1.length=32):=acD (by rw [hl1];exact bX _)
 rw [show aW (bD 256 32 (jR seed))=n32 (jR seed) from rfl] at uG
 obtain ⟨SP,hSP⟩:∃ x,x=jR seed:=⟨_,rfl⟩
 rw [← hSP] at hpa uG hw1
 obtain ⟨sp,hsp⟩:∃ x,x=n32 SP:=⟨_,rfl⟩
 rw [← hsp] at hpa uG
 have Bj:Hid (sp.length=32):=acD (by rw [hsp];exact bX _)
 obtain ⟨sr,hsr⟩:∃ x,x=jQ seed:=⟨_,rfl⟩
 rw [← hsr] at hpa
 obtain ⟨ks,hks⟩:∃ x,x=n32 seed:=⟨_,rfl⟩
 rw [← hks] at hpa ⊢
 have kU:Hid (ks.length=32):=acD (by rw [hks];exact bX _)
 have HPA:=acD hpa
 have Jz:=acD uG
 have HW1:=acD hw1
 have HTD:=acD SS
 have HTX:=acD hTX
 have HTY:=acD hTY
 have wG:=acD hTK
 obtain ⟨zn,hzn⟩:∃ zs:List Int,zs=acE 32 0:=⟨_,rfl⟩
 have dA:Hid (∀ w,(zeroValue 23).run Tryd.prog w = .ok (.agg (arr .u8 zn)) w):=acD (by intro w;rw [hzn];exact zero_num w)
 have cK:Hid (zn.length=32):=acD (by rw [hzn];rfl)
 have HI0:=acD (bM.two w (arr .u8 ks) (arr .u8 zn) 23 23)
 clear hzn hpa uG hw1 hl1 hSP hsp hsr hks SS hTX hTY hTK
 go_enter Tryd.func34, Tryd.ntmps34
 go_upto_region 1 with (first|((with_reducible refine aS 2 ?_);refine aj rfl 23 rfl _ (dA.out _) ?_))
 (try simp only [World.size_alloc,Act.put,sA,sZ,sS])
 generalize ((w.alloc (.cells (arr .u8 ks) 23)).alloc (.cells (arr .u8 zn) 23))=wb at HI0 ⊢
 go_upto_region 2 with (first|((with_reducible refine aS 6 ?_);refine lL rfl rfl (HI0.out.get 0 rfl) rfl (au _ _) Tryd.underlying23 rfl (bU kU.out) ?_)|((with_reducible show Calls _ 48 _ _ _);go_at_call 48; refine (HPA.out _ (iB wG.out HI0.out.below)).mono ?_;rintro e w1 ⟨gp,cp,D6,rfl,⟨h2,h3,h4,h5⟩,hb1⟩;have HI1:=acD (Sl.bM.add HI0.out hb1 h2 h3);have HCP:=acD h4;have HCU:=acD h5;clear hb1 h2 h3 h4 h5)|((with_reducible refine aS 3 ?_);refine lA rfl rfl (dA.out _) HI1 ?_;intro g3 w2 HI2)|((with_reducible refine aT 3 ?_);refine lS rfl rfl HI2 3 rfl rfl rfl (ay _ _ Bj.out cK.out) (bE Bj.out) (av _ _) ?_;intro w3 HI3))
 (try simp only [World.size_alloc,Act.put,sA,sZ,sS])
 have dZ:=acD ((Kept.refl (fun x=>x=w.heap.size+1) w3).drew)
 have eB:=acD (HI3.out.drew)
 refine wp_region_held_drew (S:=(fun w'=>Kept (fun x=>x=w.heap.size+1) w3 w')) (by kernel_rfl) (dZ.out) (fun hHeld=>?_)
 generalize w3.drew=wd at dZ eB hHeld ⊢
 refine' wpAnyH_take (i:=1) (oi:=(⟨some 11,_,_,_,_,none⟩:Oper)) (v:=_) rfl (by kernel_rfl) (by kernel_rfl) (by kernel_rfl) (fun _ _ _ h=>h) (yieldsIf_load_mid (by rfl) _ _ rfl _ _ rfl (sp.map (Value.int .u8)) _ ?hS5301 Tryd.underlying23 rfl (by rw [acT];exact bU Bj.out)) (by assumption) ?VN
 case hS5301=>(intro w hSw;(try dsimp only at hSw);exact aN (hSw.blk (HI3.out.get 3 rfl) (HI3.out.ne 3 1 rfl rfl (by decide))) 0 _ (by rw [acT];exact au _ _))
 (try simp only [Act.put,sA,sZ,sS])
 refine wpAnyH_ready (rs:=[0]) (by kernel_rfl) (by simp) ?_
 refine AllReadyH.cons (o:=(⟨some 10,_,_,_,_,none⟩:Oper)) rfl (fun K hK=>?_) AllReadyH.nil
 go_simp
 go_at_call 51
 refine (Bd _ (bC HTX.out eB.out.below) (bC HTY.out eB.out.below)).mono ?_
 rintro e w5302 ⟨z5302,rfl,ZO,LZ⟩
 have HZ5302:=acD ZO
 have HL5302:=acD ZO.len
 clear ZO
 have Oo:=acD (eB.out.kept LZ)
 have NR:=acD (dZ.out.trans (Kept.of_below LZ))
 clear LZ
 (try dsimp only)
 clear eB
 clear dZ
 clear hHeld
 refine hK.out _ _ (NR.out) (fun hHeld=>?_)
 clear hK K
 (try simp only [Act.put,sA,sZ,sS])
 refine wpAnyH_ready (rs:=[2]) (by kernel_rfl) (by simp) ?_
 refine AllReadyH.cons (o:=(⟨some 12,_,_,_,_,none⟩:Oper)) rfl (fun K hK=>?_) AllReadyH.nil
 go_simp
 go_at_call 50
 refine (Jz.out _ _ _ HZ5302.out (bC HTD.out Oo.out.below)).mono ?_
 rintro e w5303 ⟨z5303,rfl,ZN,LY⟩
 have HZ5303:=acD ZN
 have HL5303:=acD ZN.len
 clear ZN
 have HB5303:=acD (Oo.out.kept LY)
 have NQ:=acD (NR.out.trans (Kept.of_below LY))
 clear LY
 (try dsimp only)
 clear Oo
 clear NR
 clear hHeld
 refine hK.out _ _ (NQ.out) (fun hHeld=>?_)
 clear hK K
 (try simp only [Act.put,sA,sZ,sS])
 refine wpAnyH_ready (rs:=[3]) (by kernel_rfl) (by simp) ?_
 refine AllReadyH.cons (o:=(⟨some 13,_,_,_,_,none⟩:Oper)) rfl (fun K hK=>?_) AllReadyH.nil
 go_simp
 go_at_call 49
 refine (HW1.out _ _ HZ5303.out).mono ?_
 rintro e w5304 ⟨rfl,LX⟩
 have Om:=acD (HB5303.out.kept LX)
 have NP:=acD (NQ.out.trans (Kept.of_below LX))
 clear LX
 (try dsimp only)
 clear HB5303
 clear NQ
 clear hHeld
 refine hK.out _ _ (NP.out) (fun hHeld=>?_)
 clear hK K
 (try simp only [Act.put,sA,sZ,sS])
 refine wpAnyH_ready (rs:=[4]) (by kernel_rfl) (by simp) ?_
 refine AllReadyH.cons (o:=(⟨none,_,_,_,_,none⟩:Oper)) rfl (fun K hK=>?_) AllReadyH.nil
 refine aH rfl 23 (.tmp 2) (.tmp 13) rfl (w.heap.size+1) _ _ _ (Om.out.get 1 rfl) rfl rfl (ay _ _ nC.out cK.out) (bE nC.out) (av _ _) ?_
 intro w5305 YF Lp hz5305
 have HB5305:=acD (Om.out.put 1 rfl Lp YF)
 have HK5305:=acD (NP.out.trans Lp)
 clear YF Lp hz5305
 clear Om
 clear NP
 clear hHeld
 refine hK.out _ _ (HK5305.out) (fun hHeld=>?_)
 clear hK K
 (try simp only [Act.put])
 refine wpAnyH_done (by kernel_rfl) ?_ _
 go_wp2_with fail
 (try simp only [Exit.then])
 refine bodyPost_ret (results_cell_row rfl _ _ (w.heap.size+1) 23 _ (0,0) _ rfl (HB5305.out.get 1 rfl) Tryd.underlying23 rfl (bE nC.out)) rfl ?_
 exact ⟨rfl,HB5305.out.below⟩
end Go.Proofs.YthdgbgleklkaiaaDoor.Rd
namespace Go.Proofs.YthdgbgleklkaiaaDoor.Ce
open Go.RowKit Lm Fp Cu Sl Sc Rd
structure TabP (w:World):Prop where
 d:vW w
 x:Ub w
 y:Ua w
 k:Hb.eP w
theorem TabP.below {u u':World} (h:TabP u) (b:Below u.heap.size u u'):TabP u':=⟨bC h.d b,bC h.x b,bC h.y b,iB h.k b⟩
end Go.Proofs.YthdgbgleklkaiaaDoor.Ce
namespace Go.Proofs.YthdgbgleklkaiaaDoor.Ce
open Go.RowKit Lm Fp Cu Sl Sc
structure TabV (w:World):Prop extends TabP w where
 i:Rd.Uc w
 q:Rd.ni w
theorem zy {a b:World} (h:Rd.ni a) (k:Below a.heap.size a b):Rd.ni b:=fun t ht=>(Kept.of_below k (T:=fun _=>False)).l9 (h t ht) id
theorem TabV.below {u u':World} (h:TabV u) (b:Below u.heap.size u u'):TabV u':=⟨h.toTabP.below b,Rd.bC h.i b,zy h.q b⟩
end Go.Proofs.YthdgbgleklkaiaaDoor.Ce
