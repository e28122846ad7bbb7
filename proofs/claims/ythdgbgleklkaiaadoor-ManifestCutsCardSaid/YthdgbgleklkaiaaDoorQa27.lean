/- The document's MulQ: The document's wide. Condition: as each theorem says. -/

import Derived.Test.YthdgbgleklkaiaaDoorQa03
import Derived.Test.YthdgbgleklkaiaaDoorQa05
import Derived.Test.YthdgbgleklkaiaaDoorQa09
import Derived.Test.YthdgbgleklkaiaaDoorQa16
import Derived.Test.YthdgbgleklkaiaaDoorQa18
import Derived.Test.YthdgbgleklkaiaaDoorQa19
import Derived.Test.YthdgbgleklkaiaaDoorQa21
import Derived.Test.YthdgbgleklkaiaaDoorQa26
set_option linter.unusedSimpArgs false
set_option linter.unusedVariables false
set_option maxRecDepth 100000
set_option maxHeartbeats 16000000
namespace Go.Proofs.YthdgbgleklkaiaaDoor.Rd
open Go.RowKit Lm Sc
theorem Ta (w:World):(zeroValue 131).run Tryd.prog w = .ok (.agg (arr .i64 (List.replicate 64 0))) w:=by kernel_rfl
theorem QX (xs ys us:List Nat) (i k B:Nat) (hk:k < ys.length) (hl:i+k < us.length) (hv:val 256 us=val 256 (xs.take i) * B+256 ^ i * xs.getD i 0 * val 256 (ys.take k)) :
  val 256 (us.set (i+k) (us.getD (i+k) 0+xs.getD i 0 * ys.getD k 0))=val 256 (xs.take i) * B+256 ^ i * xs.getD i 0 * val 256 (ys.take (k+1)):=by
 have h:=mX 256 us (i+k) (us.getD (i+k) 0+xs.getD i 0 * ys.getD k 0) hl
 rw [bS _ _ _ hk,Nat.mul_add,← Nat.add_assoc,← hv]
 have e:256 ^ (i+k) * (us.getD (i+k) 0+xs.getD i 0 * ys.getD k 0)=256 ^ (i+k) * us.getD (i+k) 0+256 ^ i * xs.getD i 0 * (256 ^ k * ys.getD k 0):=by
  rw [Nat.mul_add,Nat.pow_add]
  grind
 omega
theorem JV (xs ys us:List Nat) (i k:Nat) (hx:∀ x∈xs,x < 256) (hy:∀ x∈ys,x < 256) (hl:i+k < us.length) (hb:∀ n,us.getD n 0≤65025 * (i+if i≤n∧n < i+k then 1 else 0)) :
  ∀ n,(us.set (i+k) (us.getD (i+k) 0+xs.getD i 0 * ys.getD k 0)).getD n 0≤65025 * (i+if i≤n∧n < i+(k+1) then 1 else 0):=by
 intro n
 have h1:=dw hx (by decide) i
 have h2:=dw hy (by decide) k
 have h3:xs.getD i 0 * ys.getD k 0≤255 * 255:=Nat.mul_le_mul (by omega) (by omega)
 by_cases e:n=i+k
 ·subst e
  have h:=hb (i+k)
  have eg:(us.set (i+k) (us.getD (i+k) 0+xs.getD i 0 * ys.getD k 0)).getD (i+k) 0=us.getD (i+k) 0+xs.getD i 0 * ys.getD k 0:=by simp [List.getD,hl]
  rw [eg]
  rw [if_neg (by omega)] at h
  rw [if_pos (by omega)]
  omega
 ·have h:=hb n
  have eg:(us.set (i+k) (us.getD (i+k) 0+xs.getD i 0 * ys.getD k 0)).getD n 0=us.getD n 0:=by
   simp only [List.getD]
   rw [List.getElem?_set_ne (fun e'=>e e'.symm)]
  rw [eg]
  by_cases e2:i≤n∧n < i+k
  ·rw [if_pos e2] at h
   rw [if_pos (by omega)]
   exact h
  ·rw [if_neg e2] at h
   rw [if_neg (by omega)]
   exact h
theorem U8 {a b:Nat} (ha:a < 256 ^ 32) (hb:b < 256 ^ 32):a * b < 256 ^ 64:=by
 rw [show (64:Nat)=32+32 from rfl,Nat.pow_add]
 exact Nat.mul_lt_mul_of_lt_of_lt ha hb
theorem LV (k S c X t s c':Nat) (h:S+256 ^ k * c=X) (hs:s+256 * c'=c+t):(S+256 ^ k * s)+256 ^ (k+1) * c'=X+256 ^ k * t:=by
 have e:256 ^ k * (s+256 * c')=256 ^ k * (c+t):=by rw [hs]
 rw [Nat.pow_succ]
 grind
theorem U6 (a b:Nat) (w:World) (ha:a < 256 ^ 32) (hb:b < 256 ^ 32) (hT:mP w) :
  Calls Tryd.prog 63 #[.agg (arr .u8 (aW (bD 256 32 a))), .agg (arr .u8 (aW (bD 256 32 b)))] w fun e w'=>e = .returned (.agg (arr .u8 (aW (bD 256 32 (a * b % q)))))∧Below w.heap.size w w':=by
 have hab:=U8 ha hb
 have hp64:∀ V,V < 256 ^ 64→V < 2 ^ 512:=fun V h=>by rw [show (256:Nat)=2 ^ 8 from rfl,← Nat.pow_mul,show 8 * 64=512 from rfl] at h;exact h
 have Ev:=fun w' ad cp (hs:Src w' ad 64 (aW (bD 256 64 (a * b)))) hT'=>qW ad cp (a * b) w' hs (hp64 _ hab) hT'
 obtain ⟨xs,hxs⟩:∃ r,r=bD 256 32 a:=⟨_,rfl⟩
 obtain ⟨ys,hys⟩:∃ r,r=bD 256 32 b:=⟨_,rfl⟩
 have XL:Hid (xs.length=32):=Lib.hid (by rw [hxs,aI])
 have YL:Hid (ys.length=32):=Lib.hid (by rw [hys,aI])
 have XB:Hid (∀ x∈xs,x < 256):=Lib.hid (by rw [hxs];exact gV 256 (by decide) _ _)
 have YB:Hid (∀ x∈ys,x < 256):=Lib.hid (by rw [hys];exact gV 256 (by decide) _ _)
 have XV:Hid (val 256 xs=a):=Lib.hid (by rw [hxs,yt a ha])
 have YV:Hid (val 256 ys=b):=Lib.hid (by rw [hys,yt b hb])
 have HAB:=Lib.hid hab
 obtain ⟨x0,hx0⟩:∃ r,r=aW xs:=⟨_,rfl⟩
 obtain ⟨y0,hy0⟩:∃ r,r=aW ys:=⟨_,rfl⟩
 have X0L:Hid (x0.length=32):=Lib.hid (by rw [hx0,aH,XL.out])
 have Y0L:Hid (y0.length=32):=Lib.hid (by rw [hy0,aH,YL.out])
 have X0G:Hid (∀ k,x0.getD k 0=((xs.getD k 0:Nat):Int)):=Lib.hid (fun k=>by rw [hx0,bG])
 have Y0G:Hid (∀ k,y0.getD k 0=((ys.getD k 0:Nat):Int)):=Lib.hid (fun k=>by rw [hy0,bG])
 rw [← hxs,← hys,← hx0,← hy0]
 obtain ⟨ro,hro⟩:∃ r,r=aW (bD 256 32 (a * b % q)):=⟨_,rfl⟩
 have IC:Hid (ro.length=32):=Lib.hid (by rw [hro,aH,aI])
 rw [← hro] at Ev ⊢
 obtain ⟨so,hso⟩:∃ r,r=aW (bD 256 64 (a * b)):=⟨_,rfl⟩
 have HS64:Hid (so.length=64):=Lib.hid (by rw [hso,aH,aI])
 have HSO:=Lib.hid hso
 rw [← hso] at Ev
 have Sq:Hid (∀ (w':World) {ad:Option Addr} {cp:Nat},Src w' ad 64 so→mP w'→Calls Tryd.prog 84 #[.slice ad 64 cp] w' fun e w''=>e = .returned (.agg (arr .u8 ro))∧Below w'.heap.size w' w''):=Lib.hid (fun w' ad cp h1 h2=>Ev w' ad cp h1 h2)
 have HT:=Lib.hid hT
 obtain ⟨zn,hzn⟩:∃ zs:List Int,zs=List.replicate 32 0:=⟨_,rfl⟩
 have dx:Hid (∀ w,(zeroValue 23).run Tryd.prog w = .ok (.agg (arr .u8 zn)) w):=Lib.hid (by intro w;rw [hzn];exact zero_num w)
 have cB:Hid (zn.length=32):=Lib.hid (by rw [hzn];rfl)
 obtain ⟨zs,hzs⟩:∃ zs:List Int,zs=List.replicate 64 0:=⟨_,rfl⟩
 have HZzs:Hid (∀ w,(zeroValue 25).run Tryd.prog w = .ok (.agg (arr .u8 zs)) w):=Lib.hid (by intro w;rw [hzs];exact F8 w)
 have HLzs:Hid (zs.length=64):=Lib.hid (by rw [hzs];rfl)
 obtain ⟨zt,Bn⟩:∃ zs:List Int,zs=List.replicate 64 0:=⟨_,rfl⟩
 have HZzt:Hid (∀ w,(zeroValue 131).run Tryd.prog w = .ok (.agg (arr .i64 zt)) w):=Lib.hid (by intro w;rw [Bn];exact Ta w)
 have HZS:Hid (zs=aW (List.replicate 64 0)):=Lib.hid (by rw [hzs,iZ])
 have HZT:Hid (zt=aW (List.replicate 64 0)):=Lib.hid (by rw [Bn,iZ])
 have bN:=Lib.hid (bM.four w (arr .u8 x0) (arr .u8 y0) (arr .u8 zn) (arr .i64 zt) 23 23 23 131)
 have hg0:∀ k,(List.replicate 64 (0:Nat)).getD k 0=0:=fun k=>by simp only [List.getD,List.getElem?_replicate];split <;> rfl
 have HG0:=Lib.hid hg0
 clear hzn hzs Bn Ev hx0 hy0 hxs hys hro hso hT ha hb hg0 hab hp64
 go_enter Tryd.func63, Tryd.ntmps63
 go_wp2_with (first|((with_reducible refine aS 4 ?_);refine aj rfl 23 rfl _ (dx.out _) ?_)|((with_reducible refine aS 5 ?_);refine aj rfl 131 rfl _ (HZzt.out _) ?_))
 go_loopw [6] (fun v wr=>∃ i:Nat,i≤32∧v = .int .i64 i∧∃ ts:List Nat,ts.length=64∧(∀ n,ts.getD n 0≤65025 * i)∧val 256 ts=val 256 (xs.take i) * b∧bM w wr [(w.heap.size,arr .u8 x0, 23),(w.heap.size+1,arr .u8 y0, 23),(w.heap.size+1+1,arr .u8 zn, 23),(w.heap.size+1+1+1,arr .i64 (aW ts), 131)]) (fun v _=>32 - (intOf v).toNat)
 case atStart=>exact ⟨0,Nat.zero_le _,rfl,List.replicate 64 0,by simp,(fun n=>by rw [HG0.out n];omega),(by rw [mq,List.take_zero];simp [val]),by rw [← HZT.out];exact bN.out⟩
 clear bN
 case round =>
 obtain ⟨i,hi,rfl,ts,tl,SE,tv,hB⟩:=hrel
 by_cases hlt:i < 32
 ·have HB:=Lib.hid hB
  have uE:=Lib.hid tl
  have HTB:=Lib.hid SE
  have HTV:=Lib.hid tv
  clear hB tl SE tv
  go_wp2_with fail
  generalize Value.bool (decide ((i:Int) < 32))=ub'
  go_loopw [7] (fun v wr=>∃ k:Nat,k≤32∧v = .int .i64 k∧∃ us:List Nat,us.length=64∧(∀ n,us.getD n 0≤65025 * (i+if i≤n∧n < i+k then 1 else 0))∧val 256 us=val 256 (xs.take i) * b+256 ^ i * xs.getD i 0 * val 256 (ys.take k)∧bM w wr [(w.heap.size,arr .u8 x0, 23),(w.heap.size+1,arr .u8 y0, 23),(w.heap.size+1+1,arr .u8 zn, 23),(w.heap.size+1+1+1,arr .i64 (aW us), 131)]) (fun v _=>32 - (intOf v).toNat)
  case atStart=>exact ⟨0,Nat.zero_le _,rfl,ts,uE.out,(by intro n;rw [if_neg (by omega)];exact HTB.out n),(by rw [HTV.out,List.take_zero];simp [val]),HB.out⟩
  case round =>
   obtain ⟨k,hk,rfl,us,ul,ub,uv,hU⟩:=hrel
   by_cases hlk:k < 32
   ·have q0:=aN (hU.get 0 rfl) i (by rw [X0L.out];exact hlt)
    have q1:=aN (hU.get 1 rfl) k (by rw [Y0L.out];exact hlk)
    have q2:=aN (hU.get 3 rfl) (i+k) (by rw [aH,ul];omega)
    have q3:=aC (hU.get 3 rfl) (i+k)
    rw [X0G.out] at q0
    rw [Y0G.out] at q1
    rw [bG] at q2
    have pb:=JV xs ys us i k XB.out YB.out (by omega) ub
    have ps:=QX xs ys us i k b (by rw [YL.out];exact hlk) (by omega) uv
    have ub0:=ub (i+k)
    rw [if_neg (by omega)] at ub0
    have x1:=dw XB.out (by decide) i
    have y1:=dw YB.out (by decide) k
    have hp:xs.getD i 0 * ys.getD k 0≤255 * 255:=Nat.mul_le_mul (by omega) (by omega)
    have HPB:=Lib.hid pb
    have MB:=Lib.hid ps
    obtain ⟨vs,hvs⟩:∃ vs,vs=us.set (i+k) (us.getD (i+k) 0+xs.getD i 0 * ys.getD k 0):=⟨_,rfl⟩
    have MC:Hid (vs.length=64):=Lib.hid (by rw [hvs,List.length_set,ul])
    rw [← hvs] at HPB MB
    have hpi:((xs.getD i 0 * ys.getD k 0:Nat):Int)=(xs.getD i 0:Int) * (ys.getD k 0:Int):=Int.natCast_mul _ _
    have hb1:=hU.cell 3 rfl (i+k) (.int .i64 ((us.getD (i+k) 0:Int)+(xs.getD i 0:Int) * (ys.getD k 0:Int)))
    have e2:(arr .i64 (aW us)).setIfInBounds (i+k) (.int .i64 ((us.getD (i+k) 0:Int)+(xs.getD i 0:Int) * (ys.getD k 0:Int)))=arr .i64 (aW vs):=by rw [← hpi,← Int.natCast_add,aY,← dn,hvs]
    have HU1:=Lib.hid (hb1.cast (l':=[(w.heap.size,arr .u8 x0, 23),(w.heap.size+1,arr .u8 y0, 23),(w.heap.size+1+1,arr .u8 zn, 23),(w.heap.size+1+1+1,arr .i64 (aW vs), 131)]) (by rw [← e2];rfl))
    clear hb1 e2 hvs hU ul ub uv pb ps
    generalize us.getD (i+k) 0=u at q2 ub0 HU1
    generalize xs.getD i 0=x at q0 hp hpi MB HU1 x1
    generalize ys.getD k 0=y at q1 hp hpi HU1 y1
    have hr1:0≤(x:Int) * (y:Int)∧(x:Int) * (y:Int)≤65025:=by rw [← hpi];omega
    clear hp hpi
    go_wp2_with fail
    go_region
    go_wp2_with fail
    go_roundw
    case rel=>exact ⟨k+1,by omega,by go_num,vs,MC.out,HPB.out,MB.out,HU1.out.drew⟩
    case measure=>simp [intOf];omega
   ·obtain rfl:k=32:=by omega
    rw [List.take_of_length_le (Nat.le_of_eq YL.out),YV.out] at uv
    have HU:=Lib.hid hU
    have Jd:=Lib.hid ul
    have HUB:Hid (∀ n,us.getD n 0≤65025 * (i+1)):=Lib.hid (by
     intro n
     have:=ub n
     by_cases e:i≤n∧n < i+32
     ·rw [if_pos e] at this;omega
     ·rw [if_neg e] at this;omega)
    have HUV:Hid (val 256 us=val 256 (xs.take (i+1)) * b):=Lib.hid (by rw [uv,bS 256 xs i (by rw [XL.out];exact hlt),Nat.add_mul])
    clear hU ul ub uv HB uE HTB HTV
    go_wp2_with fail
    go_roundw
    case rel=>exact ⟨i+1,by omega,by go_num,us,Jd.out,HUB.out,HUV.out,HU.out⟩
    case measure=>simp [intOf];omega
 ·obtain rfl:i=32:=by omega
  rw [List.take_of_length_le (Nat.le_of_eq XL.out),XV.out] at tv
  have HB:=Lib.hid (hB.alloc (arr .u8 zs) 25)
  have uE:=Lib.hid tl
  have HTB:=Lib.hid SE
  have HTV:=Lib.hid tv
  clear hB tl SE tv
  go_wp2_with (first|((with_reducible refine aS 8 ?_);refine aj rfl 25 rfl _ (HZzs.out _) ?_))
  generalize wr.heap.size=gs at HB ⊢
  go_loopw [9,10] (fun cv jv wq=>∃ (j c:Nat) (ss:List Nat),j≤64∧jv = .int .i64 j∧cv = .int .i64 c∧c≤10000∧ss.length=64∧(∀ x∈ss,x < 256)∧val 256 (ss.take j)+256 ^ j * c=val 256 (ts.take j)∧bM w wq [(w.heap.size,arr .u8 x0, 23),(w.heap.size+1,arr .u8 y0, 23),(w.heap.size+1+1,arr .u8 zn, 23),(w.heap.size+1+1+1,arr .i64 (aW ts), 131),(gs,arr .u8 (aW ss), 25)]) (fun _ jv _=>64 - (intOf jv).toNat)
  case atStart=>exact ⟨0,0,List.replicate 64 0,Nat.zero_le _,rfl,rfl,Nat.zero_le _,by simp,by simp,by simp [val],by rw [← HZS.out];exact HB.out⟩
  case round =>
   obtain ⟨j,c,ss,hj,rfl,rfl,hc,hsl,hsb,hv,hQ⟩:=hrel
   by_cases hlj:j < 64
   ·have q0:=aN (hQ.get 3 rfl) j (by rw [aH,uE.out];exact hlj)
    have q2:=aN (hQ.get 4 rfl) j (by rw [aH,hsl];exact hlj)
    have q3:=aC (hQ.get 4 rfl) j
    rw [bG] at q0
    have t1:=HTB.out j
    have st:=fun s c' hs=>LV j _ c _ (ts.getD j 0) s c' hv hs
    have vm:=fun s=>kr 256 ss j s (by omega)
    rw [← bS 256 ts j (by rw [uE.out];exact hlj)] at st
    generalize ts.getD j 0=t at q0 t1 st
    have hst:=st ((c+t) % 256) ((c+t) / 256) (by omega)
    rw [← vm] at hst
    have ha:=qB (c+t) (by omega)
    rw [Int.natCast_add] at ha
    have hb1:=hQ.cell 4 rfl j (.int .u8 (bits .and .i64 ((c:Int)+(t:Int)) 255 % 256))
    have e2:(arr .u8 (aW ss)).setIfInBounds j (.int .u8 (bits .and .i64 ((c:Int)+(t:Int)) 255 % 256))=arr .u8 (aW (ss.set j ((c+t) % 256))):=by rw [ha,show ((((c+t) % 256:Nat):Int) % 256)=(((c+t) % 256:Nat):Int) by omega,aY,← dn]
    have HQ1:=Lib.hid (hb1.cast (l':=[(w.heap.size,arr .u8 x0, 23),(w.heap.size+1,arr .u8 y0, 23),(w.heap.size+1+1,arr .u8 zn, 23),(w.heap.size+1+1+1,arr .i64 (aW ts), 131),(gs,arr .u8 (aW (ss.set j ((c+t) % 256))), 25)]) (by rw [← e2];rfl))
    have HST:=Lib.hid hst
    have HSL:Hid ((ss.set j ((c+t) % 256)).length=64):=Lib.hid (by rw [List.length_set,hsl])
    have Px:Hid (∀ z∈ss.set j ((c+t) % 256),z < 256):=Lib.hid (jC hsb j ((c+t) % 256) (Nat.mod_lt _ (by decide)))
    clear hb1 e2 hst st vm hQ hsl hsb hv ha
    go_wp2_with fail
    go_roundw
    case rel=>exact ⟨j+1,(c+t) / 256,_,by omega,by go_num,by go_num,by omega,HSL.out,Px.out,HST.out,HQ1.out⟩
    case measure=>simp [intOf];omega
   ·obtain rfl:j=64:=by omega
    rw [List.take_of_length_le (Nat.le_of_eq hsl),List.take_of_length_le (Nat.le_of_eq uE.out),HTV.out] at hv
    have hab:=HAB.out
    have hc0:c=0:=by
     rcases Nat.eq_zero_or_pos c with h|h
     ·exact h
     ·have:256 ^ 64 * 1≤256 ^ 64 * c:=Nat.mul_le_mul_left _ h
      omega
    subst hc0
    rw [Nat.mul_zero,Nat.add_zero] at hv
    have hd:=pG 256 (by decide) 64 (a * b) ss hsl hsb hv
    rw [hd,← HSO.out] at hQ
    have HQ:=Lib.hid hQ
    clear hQ hv hab hd hsl hsb hc HB
    go_wp2_with (first|((with_reducible show Calls _ 84 _ _ _);go_at_call 84; refine (Sq.out _ (Gq (HQ.out.get 4 rfl) 64 HS64.out) (HT.out.below HQ.out.below)).mono ?_;rintro e w6 ⟨rfl,hb6⟩;have kQ:=Lib.hid (HQ.out.kept hb6);clear hb6)|((with_reducible refine aT 4 ?_);refine ah rfl 23 _ _ rfl (w.heap.size+1+1) _ _ 23 (kQ.out.get 2 rfl) rfl rfl (ay _ _ IC.out cB.out) (bE IC.out) (av _ _) ?_;intro w7 dV iA kZ;have eX:=Lib.hid (kQ.out.put 2 rfl iA dV);clear dV iA kZ))
    (try simp only [Exit.inBlock,Exit.then])
    refine bodyPost_ret (results_cell_row rfl _ _ (w.heap.size+1+1) 23 _ (0,0) _ rfl (eX.out.get 2 rfl) Tryd.underlying23 rfl (bE IC.out)) rfl ?_
    exact ⟨rfl,eX.out.below⟩
end Go.Proofs.YthdgbgleklkaiaaDoor.Rd
namespace Go.Proofs.YthdgbgleklkaiaaDoor.Rd
open Go.RowKit Lm Fp Cu Sc
theorem ig {a b:World} (h:Hb.eB a) (k:Below a.heap.size a b):Hb.eB b:=fun t ht=>(Kept.of_below k (T:=fun _=>False)).lM (h t ht) id
theorem h512:(2:Nat) ^ 512=256 ^ 64:=by
 have:=Nat.pow_mul 2 8 64
 rw [show 8 * 64=512 from rfl,show (2:Nat) ^ 8=256 from rfl] at this
 exact this
theorem own_src {w:World} {B:Nat} {v:Value} {xs:List Int} (h:aV w B v xs):∃ s c,v = .slice s xs.length c∧Src w s xs.length xs:=by
 obtain ⟨s,c,rfl,_,_,hs,_⟩:=h.form
 exact ⟨s,c,rfl,hs⟩
theorem Gh (sa:Option Addr) (n c:Nat) (L:List (List Int)) (w:World) (hs:qD w sa n L) (hb:∀ l∈L,bytes l) (hN:L.flatten.length≤1099511627776) (hn:n≤1099511627776) (hk:Hb.eB w) (hT:mP w) :
  Calls Tryd.prog 61 #[.slice sa n c] w fun e w'=>e = .returned (.agg (arr .u8 (n32 (wide L.flatten))))∧Below w.heap.size w w':=by
 have hbf:bytes L.flatten:=by intro x hx;obtain ⟨l,hl,hx⟩:=List.mem_flatten.1 hx;exact hb l hl x hx
 have hj:∀ (u:World),qD u sa n L→Calls Tryd.prog 83 #[.slice sa n c] u fun e w'=>∃ s cc,e = .returned (.slice s L.flatten.length cc)∧Src w' s L.flatten.length L.flatten∧Below u.heap.size u w':=by
  intro u h
  refine (Vp sa n c L u h hN hn).mono ?_
  rintro e w' ⟨v,rfl,h1,h2⟩
  obtain ⟨s,cc,rfl,h3⟩:=own_src h1
  exact ⟨s,cc,rfl,h3,h2⟩
 have hsh:=fun (u:World) (s:Option Addr) (c:Nat) (h:Src u s L.flatten.length L.flatten) (hk:Hb.eB u)=>Hb.kE s L.flatten.length c L.flatten u h hbf (by omega) hk
 have hh:=o8 L.flatten
 have hl:=Hb.dZ L.flatten
 have hwd:wide L.flatten=eY (Hb.hash L.flatten) % q:=rfl
 rw [hwd]
 obtain ⟨hs',hhs⟩:∃ h,h=Hb.hash L.flatten:=⟨_,rfl⟩
 rw [← hhs] at hsh hh hl ⊢
 have hd:=Ih hh
 rw [hl] at hd
 have hV:=xU hh
 rw [hl] at hV
 obtain ⟨V,hVe⟩:∃ v,v=eY hs':=⟨_,rfl⟩
 rw [← hVe] at hd hV ⊢
 generalize hLL:L.flatten.length=m at hj hsh
 have Sq:Hid (∀ (sa:Option Addr) (u:World),Src u sa 64 hs'→mP u→Calls Tryd.prog 84 #[.slice sa 64 64] u fun e w'=>e = .returned (.agg (arr .u8 (n32 (V % q))))∧Below u.heap.size u w'):=Lib.hid (fun sa u h hT=>qW sa 64 V u (by rw [hd];exact h) (by rw [h512];exact hV) hT)
 obtain ⟨ro,hro⟩:∃ r,r=n32 (V % q):=⟨_,rfl⟩
 rw [← hro] at Sq ⊢
 have iK:Hid (ro.length=32):=Lib.hid (by rw [hro];exact bW _)
 have HJ:=Lib.hid hj
 have HSH:=Lib.hid hsh
 have HSL:=Lib.hid hl
 have HS:=Lib.hid hs
 have HK:=Lib.hid hk
 have HT:=Lib.hid hT
 obtain ⟨zn,hzn⟩:∃ zs:List Int,zs=List.replicate 32 0:=⟨_,rfl⟩
 have dx:Hid (∀ w,(zeroValue 23).run Tryd.prog w = .ok (.agg (arr .u8 zn)) w):=Lib.hid (by intro w;rw [hzn];exact zero_num w)
 have cB:Hid (zn.length=32):=Lib.hid (by rw [hzn];rfl)
 obtain ⟨fP,oW⟩:∃ zs:List Int,zs=List.replicate 64 0:=⟨_,rfl⟩
 have vL:Hid (∀ w,(zeroValue 26).run Tryd.prog w = .ok (.agg (arr .u8 fP)) w):=Lib.hid (by intro w;rw [oW];exact Sl.sJ w)
 have rY:Hid (fP.length=64):=Lib.hid (by rw [oW];rfl)
 have bN:=Lib.hid (bM.one w (arr .u8 zn) 23)
 clear hLL hzn oW hs hb hbf hj hsh hh hl hwd hhs hd hV hVe hro hk hT hN hn
 go_enter Tryd.func61, Tryd.ntmps61
 go_upto_region 1 with (first|((with_reducible refine aS 2 ?_);refine aj rfl 23 rfl _ (dx.out _) ?_))
 (try simp only [World.size_alloc,Act.put,sA,sZ,sS])
 generalize (w.alloc (.cells (arr .u8 zn) 23))=wb at bN ⊢
 go_upto_region 2 with (first|((with_reducible show Calls _ 83 _ _ _);go_at_call 83; refine (HJ.out _ (HS.out.below bN.out.below)).mono ?_;rintro e w1 ⟨sj,cj,rfl,h1,hb1⟩;have HSJ:=Lib.hid h1;have HB1:=Lib.hid (bN.out.kept hb1);clear h1 hb1)|((with_reducible show Calls _ 64 _ _ _);go_at_call 64; refine (HSH.out _ _ _ HSJ.out (ig HK.out HB1.out.below)).mono ?_;rintro e w2 ⟨rfl,hb2⟩;have HB2:=Lib.hid (HB1.out.kept hb2);clear hb2)|((with_reducible refine aS 3 ?_);refine aj rfl 26 rfl _ (vL.out _) ?_;have HB3:=Lib.hid (HB2.out.alloc (arr .u8 fP) 26);generalize w2.heap.size=g5 at HB3 ⊢; generalize w2.alloc (.cells (arr .u8 fP) 26)=w3 at HB3 ⊢)|((with_reducible refine aT 3 ?_);refine ah rfl 26 _ _ rfl (g5) _ _ 26 (HB3.out.get 1 rfl) rfl rfl (ay _ _ HSL.out rY.out) (Sl.kS HSL.out) (av _ _) ?_;intro w4 hb4 hk4 hz4;have qE:=Lib.hid (HB3.out.put 1 rfl hk4 hb4);clear hb4 hk4 hz4))
 (try simp only [World.size_alloc,Act.put,sA,sZ,sS])
 go_wp2_with (first|((with_reducible show Calls _ 84 _ _ _);go_at_call 84; refine (Sq.out _ _ (Sl.bO (qE.out.get 1 rfl) 64 HSL.out) (HT.out.below qE.out.below)).mono ?_;rintro e w5 ⟨rfl,hb5⟩;have gu:=Lib.hid (qE.out.kept hb5);clear hb5)|((with_reducible refine aT 2 ?_);refine ah rfl 23 _ _ rfl (w.heap.size) _ _ 23 (gu.out.get 0 rfl) rfl rfl (ay _ _ iK.out cB.out) (bE iK.out) (av _ _) ?_;intro w6 hb6 xV Ka;have kQ:=Lib.hid (gu.out.put 0 rfl xV hb6);clear hb6 xV Ka))
 (try simp only [Exit.then])
 refine bodyPost_ret (results_cell_row rfl _ _ (w.heap.size) 23 _ (0,0) _ rfl (kQ.out.get 0 rfl) Tryd.underlying23 rfl (bE iK.out)) rfl ?_
 exact ⟨rfl,kQ.out.below⟩
end Go.Proofs.YthdgbgleklkaiaaDoor.Rd
