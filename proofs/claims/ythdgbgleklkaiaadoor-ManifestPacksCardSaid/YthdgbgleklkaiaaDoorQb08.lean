/- The document's carry, in, add, sub, one: The document's in, one, add, sub: The document's mul: The document's out. Condition: as each theorem says. -/

import Derived.Test.YthdgbgleklkaiaaDoorQb02
import Derived.Test.YthdgbgleklkaiaaDoorQb04
open Go.Lib renaming hid→acD
open List renaming replicate→acE,length_set→acM
open BitVec renaming ofInt→acF,ofInt_natCast→acJ,toNat_ofNat→acK,toNat_and→acN
open Nat renaming zero_le→acG,mod_eq_of_lt→acL,and_two_pow_sub_one_eq_mod→acO
open Int renaming eq_ofNat_of_zero_le→acI
set_option linter.unusedSimpArgs false
set_option linter.unusedVariables false
set_option maxRecDepth 100000
set_option maxHeartbeats 16000000
namespace Go.Proofs.YthdgbgleklkaiaaDoor.Rd
open Go.RowKit Lm Fp
theorem gJ (w:World):(zeroValue 98).run Tryd.prog w = .ok (.agg (arr .i64 (acE 16 0))) w:=by kernel_rfl
theorem O5:(Tryd.prog.info? 98).map (·.size)=some 16:=by kernel_rfl
theorem cZ {xs:List Int} (h:xs.length=16):(Tryd.prog.info? 98).map (·.size)=some (arr .i64 xs).size:=by rw [aD,h];exact O5
theorem bJ {xs:List Int} (h:xs.length=16):(Tryd.prog.info? 98).map (·.size)=some xs.length:=by rw [h];exact O5
theorem zero_num (w:World):(zeroValue 23).run Tryd.prog w = .ok (.agg (arr .u8 (acE 32 0))) w:=by kernel_rfl
theorem pG:(Tryd.prog.info? 23).map (·.size)=some 32:=by kernel_rfl
theorem bE {xs:List Int} (h:xs.length=32):(Tryd.prog.info? 23).map (·.size)=some (arr .u8 xs).size:=by rw [aD,h];exact pG
theorem bU {xs:List Int} (h:xs.length=32):(Tryd.prog.info? 23).map (·.size)=some xs.length:=by rw [h];exact pG
theorem iF (xs:List Int) (w:World) (hl:xs.length=16) (hb:∀ x∈xs, -1152921504606846976≤x∧x≤1152921504606846976) :
  Calls Tryd.prog 88 #[.agg (arr .i64 xs)] w fun e w'=>e = .returned (.agg (arr .i64 (carry xs)))∧Below w.heap.size w w':=by
 obtain ⟨zs,hzs⟩:∃ zs:List Int,zs=acE 16 0:=⟨_,rfl⟩
 have hz:∀ w,(zeroValue 98).run Tryd.prog w = .ok (.agg (arr .i64 zs)) w:=by intro w;rw [hzs];exact gJ w
 have hzl:zs.length=16:=by rw [hzs];rfl
 have hgb:=bT xs 1152921504606846976 hb (by decide)
 have hcb:=AQ xs 1152921504606846976 17593000000000 hgb (by decide) (by decide)
 have S0:=bM.two w (arr .i64 xs) (arr .i64 zs) 98 98
 have bQ:=acD S0
 have HZ:=acD hz
 have uT:=acD hzl
 have HL:=acD hl
 have HGB:=acD hgb
 have HCB:=acD hcb
 clear S0 hz hzl hzs hl hb hgb hcb
 go_enter Tryd.func88, Tryd.ntmps88
 go_wp2_with (first|((with_reducible refine aS 2 ?_);refine aj rfl 98 rfl _ (HZ.out _) ?_))
 go_loopw [3] (fun v wr=>∃ i:Nat,i≤16∧v = .int .i64 i∧∃ cs:List Int,cs=(if i < 16 then mid xs i else carry xs)∧bM w wr [(w.heap.size,arr .i64 cs, 98),(w.heap.size+1,arr .i64 zs, 98)]) (fun v _=>16 - (intOf v).toNat)
 case atStart=>exact ⟨0,acG _,rfl,_,by rw [if_pos (by decide),mid_zero xs HL.out],bQ.out⟩
 clear bQ
 case round =>
 obtain ⟨i,hi,rfl,cs,hcs,hB⟩:=hrel
 by_cases hlt:i < 16
 ·rw [if_pos hlt] at hcs
  have cl:cs.length=16:=by rw [hcs];exact dU _ _
  have q0:=aP (hB.get 0 rfl) i (by rw [cl];exact hlt)
  have q3:=aC (hB.get 0 rfl) i
  have e0:=yE xs i hlt
  rw [hcs,e0] at q0
  have c0:=HCB.out i
  have g0:=HGB.out i
  by_cases h15:i < 15
  ·have q1:=aP (hB.get 0 rfl) (i+1) (by rw [cl];omega)
   have q4:=aC (hB.get 0 rfl) (i+1)
   have e1:=WK xs i (i+1) (by omega) (by omega)
   rw [hcs,e1] at q1
   have st:=fun x hx=>mid_step xs i x h15 hx
   have g1:=HGB.out (i+1)
   generalize hx:xs.getD i 0+cr xs i=x at q0 st
   have st:=st x rfl
   generalize xs.getD (i+1) 0=y at q1 st g1
   have hx2 : -1152939097606846976≤x∧x≤1152939097606846976:=by omega
   have n1:x - x / 65536 * 65536=x % 65536:=by omega
   have hb1:=(hB.cell 0 rfl i (.int .i64 (x - x / 65536 * 65536))).cell 0 rfl (i+1) (.int .i64 (y+x / 65536))
   have e2:(((arr .i64 cs).setIfInBounds i (.int .i64 (x - x / 65536 * 65536))).setIfInBounds (i+1) (.int .i64 (y+x / 65536)))=arr .i64 (mid xs (i+1)):=by rw [n1,bf,bf,hcs,st]
   have HB:=acD (hb1.cast (l':=[(w.heap.size,arr .i64 (mid xs (i+1)), 98),(w.heap.size+1,arr .i64 zs, 98)]) (by rw [← e2];rfl))
   clear n1 hb1 e2 hcs hB st e0 e1 hx c0 g0
   go_wp2_with fail
   go_roundw
   case rel=>exact ⟨i+1,by omega,by go_num,_,by rw [if_pos (by omega)],HB.out⟩
   case measure=>simp [intOf];omega
  ·obtain rfl:i=15:=by omega
   have q1:=aP (hB.get 0 rfl) 0 (by rw [cl];omega)
   have q4:=aC (hB.get 0 rfl) 0
   have st:=fun x hx=>mid_end xs x hx
   generalize hx:xs.getD 15 0+cr xs 15=x at q0 st
   have st:=st x rfl
   have ef:cs.getD 0 0=(xs.getD 0 0+cr xs 0) % 65536:=by rw [hcs,mid,jh _ _ _ (by decide),if_pos (by decide)]
   rw [ef] at q1
   generalize hy:(xs.getD 0 0+cr xs 0) % 65536=y at q1 st
   have hy2:0≤y∧y≤65535:=by omega
   have hx2 : -1152939097606846976≤x∧x≤1152939097606846976:=by omega
   have n1:x - x / 65536 * 65536=x % 65536:=by omega
   have hb1:=(hB.cell 0 rfl 15 (.int .i64 (x - x / 65536 * 65536))).cell 0 rfl 0 (.int .i64 (y+38 * (x / 65536)))
   have e2:(((arr .i64 cs).setIfInBounds 15 (.int .i64 (x - x / 65536 * 65536))).setIfInBounds 0 (.int .i64 (y+38 * (x / 65536))))=arr .i64 (carry xs):=by rw [n1,bf,bf,hcs,st]
   have HB:=acD (hb1.cast (l':=[(w.heap.size,arr .i64 (carry xs), 98),(w.heap.size+1,arr .i64 zs, 98)]) (by rw [← e2];rfl))
   clear n1 hb1 e2 hcs hB st e0 ef hx c0 g0 hy
   go_wp2_with fail
   go_roundw
   case rel=>exact ⟨16,by omega,by go_num,_,by rw [if_neg (by omega)],HB.out⟩
   case measure=>simp [intOf]
 ·obtain rfl:i=16:=by omega
  rw [if_neg (by decide)] at hcs
  subst hcs
  have cl:=gW xs
  obtain ⟨rs,hrs⟩:∃ rs,rs=carry xs:=⟨_,rfl⟩
  rw [← hrs] at hB cl ⊢
  have HB:=acD hB
  have HOL:=acD cl
  have CZ:=acD hrs
  clear hB cl hrs
  go_wp2_with (first|((with_reducible refine aS 38 ?_);refine ak rfl 98 _ rfl w.heap.size 0 _ 98 (0,0) _ (HB.out.get 0 rfl) rfl .i64 rs (au _ _) Tryd.underlying98 rfl (bJ HOL.out) ?_)|((with_reducible show wpList _ _ _ (Oper.mk none _ _ _ _ _ :: _) _ _);refine lS rfl rfl HB 1 rfl rfl rfl (ay _ _ HOL.out uT.out) (cZ HOL.out) (av _ _) ?_;intro w7 eG))
  (try simp only [Exit.inBlock,Exit.then])
  refine bodyPost_ret (results_cell_row rfl _ _ (w.heap.size+1) 98 _ (0,0) _ rfl (eG.out.get 1 rfl) Tryd.underlying98 rfl (cZ HOL.out)) rfl ?_
  exact ⟨by rw [CZ.out],eG.out.below⟩
end Go.Proofs.YthdgbgleklkaiaaDoor.Rd
namespace Go.Proofs.YthdgbgleklkaiaaDoor.Rd
open Go.RowKit Lm Fp
theorem byte_at {xs:List Int} (h:∀ x∈xs,0≤x∧x≤255) (i:Nat):0≤xs.getD i 0∧xs.getD i 0≤255:=by
 simp only [List.getD]
 cases e:xs[i]? with
 | none=>simp
 | some y=>simpa using h y (List.mem_of_getElem? e)
theorem or_pair (x y:Int) (hx:0≤x∧x≤255) (hy:0≤y∧y≤255):bits .or .i64 x (y * 256)=x+256 * y:=by
 obtain ⟨a,rfl⟩:=acI hx.1
 obtain ⟨b,rfl⟩:=acI hy.1
 have h1:(acF 64 (a:Int)).toNat=a:=by rw [acJ,acK];exact acL (by omega)
 have h2:(acF 64 ((b:Int) * 256)).toNat=b * 256:=by
  rw [show (b:Int) * 256=((b * 256:Nat):Int) by omega,acJ,acK];exact acL (by omega)
 show IntKind.i64.wrap ((acF 64 (a:Int) ||| acF 64 ((b:Int) * 256)).toNat:Int)=_
 have h3:a ||| b * 256=b * 256+a:=by
  rw [Nat.or_comm,Nat.mul_comm,show (256:Nat)=2 ^ 8 by rfl,← Nat.two_pow_add_eq_or_of_lt (by omega)]
 rw [BitVec.toNat_or,h1,h2,h3,IntKind.wrap_i64]
 omega
theorem in_code (ns:List Int) (w:World) (hl:ns.length=32) (hb:∀ x∈ns,0≤x∧x≤255) :
  Calls Tryd.prog 76 #[.agg (arr .u8 ns)] w fun e w'=>e = .returned (.agg (arr .i64 (ins ns 16)))∧Below w.heap.size w w':=by
 obtain ⟨ze,iM⟩:∃ zs:List Int,zs=acE 16 0:=⟨_,rfl⟩
 have dN:Hid (∀ w,(zeroValue 98).run Tryd.prog w = .ok (.agg (arr .i64 ze)) w):=acD (by intro w;rw [iM];exact gJ w)
 have dG:Hid (ze.length=16):=acD (by rw [iM];rfl)
 have hz0:ze=ins ns 0:=by rw [iM];exact WZ ns
 have bQ:=acD (bM.three w (arr .u8 ns) (arr .i64 ze) (arr .i64 ze) 23 98 98)
 have HL:=acD hl
 have HB:=acD hb
 have HZ0:=acD hz0
 clear iM hl hb hz0
 go_enter Tryd.func76, Tryd.ntmps76
 go_wp2_with (first|((with_reducible refine aS 2 ?_);refine aj rfl 98 rfl _ (dN.out _) ?_)|((with_reducible refine aS 3 ?_);refine aj rfl 98 rfl _ (dN.out _) ?_))
 go_loopw [4] (fun v wr=>∃ i:Nat,i≤16∧v = .int .i64 i∧∃ cs:List Int,cs=ins ns i∧bM w wr [(w.heap.size,arr .u8 ns, 23),(w.heap.size+1,arr .i64 ze, 98),(w.heap.size+1+1,arr .i64 cs, 98)]) (fun v _=>16 - (intOf v).toNat)
 case atStart=>exact ⟨0,acG _,rfl,_,HZ0.out,bQ.out⟩
 clear bQ HZ0
 case round =>
 obtain ⟨i,hi,rfl,cs,hcs,hB⟩:=hrel
 have cl:cs.length=16:=by rw [hcs];exact dU _ _
 by_cases hlt:i < 16
 ·have q0:=aP (hB.get 0 rfl) (2 * i) (by rw [HL.out];omega)
  have q1:=aP (hB.get 0 rfl) (2 * i+1) (by rw [HL.out];omega)
  have q3:=aC (hB.get 2 rfl) i
  have q4:=aP (hB.get 2 rfl) i (by rw [cl];exact hlt)
  have b0:=byte_at HB.out (2 * i)
  have b1:=byte_at HB.out (2 * i+1)
  have st:=W9 ns i
  generalize ns.getD (2 * i) 0=x at q0 b0 st
  generalize ns.getD (2 * i+1) 0=y at q1 b1 st
  have ho:=or_pair x y b0 b1
  have hb1:=hB.cell 2 rfl i (.int .i64 (bits .or .i64 x (y * 256)))
  have e2:(arr .i64 cs).setIfInBounds i (.int .i64 (bits .or .i64 x (y * 256)))=arr .i64 (ins ns (i+1)):=by rw [ho,bf,hcs,st]
  have HB1:=acD (hb1.cast (l':=[(w.heap.size,arr .u8 ns, 23),(w.heap.size+1,arr .i64 ze, 98),(w.heap.size+1+1,arr .i64 (ins ns (i+1)), 98)]) (by rw [← e2];rfl))
  have n1:(2 * (i:Int)).toNat=2 * i:=by omega
  have n2:(2 * (i:Int)+1).toNat=2 * i+1:=by omega
  clear hb1 e2 hcs hB st ho cl
  go_wp2_with fail
  go_region
  go_wp2_with fail
  go_roundw
  case rel=>exact ⟨i+1,by omega,by go_num,_,rfl,HB1.out.drew⟩
  case measure=>simp [intOf];omega
 ·obtain rfl:i=16:=by omega
  have HB2:=acD hB
  have HOL:=acD cl
  have CZ:=acD hcs
  clear hB cl hcs
  go_wp2_with (first|((with_reducible refine aS 24 ?_);refine lL rfl rfl (HB2.out.get 2 rfl) rfl (au _ _) Tryd.underlying98 rfl (bJ HOL.out) ?_)|((with_reducible refine aT 2 ?_);refine lS rfl rfl HB2 1 rfl rfl rfl (ay _ _ HOL.out dG.out) (cZ HOL.out) (av _ _) ?_;intro w7 eG))
  (try simp only [Exit.inBlock,Exit.then])
  refine bodyPost_ret (results_cell_row rfl _ _ (w.heap.size+1) 98 _ (0,0) _ rfl (eG.out.get 1 rfl) Tryd.underlying98 rfl (cZ HOL.out)) rfl ?_
  exact ⟨by rw [CZ.out],eG.out.below⟩
theorem in_any (ns:List Nat) (w:World) (hl:ns.length=32) (hb:∀ n∈ns,n < 256) :
  Calls Tryd.prog 76 #[.agg (arr .u8 (aW ns))] w fun e w'=>∃ zs,e = .returned (.agg (arr .i64 zs))∧El zs (val 256 ns % p)∧Below w.heap.size w w' :=
 (in_code (aW ns) w (by rw [aJ,hl]) (by
  intro x hx
  obtain ⟨n,hn,rfl⟩:=List.mem_map.1 hx
  have:=hb n hn
  show 0≤(n:Int)∧(n:Int)≤255
  omega)).mono fun _ _ h=>⟨_,h.1,ins_el ns hl hb,h.2⟩
theorem gu (n:Nat) (w:World) (hn:n≤1048576) :
  Calls Tryd.prog 71 #[.int .i64 n] w fun e w'=>∃ zs,e = .returned (.agg (arr .i64 zs))∧El zs n∧Below w.heap.size w w':=by
 obtain ⟨ze,iM⟩:∃ zs:List Int,zs=acE 16 0:=⟨_,rfl⟩
 have dN:Hid (∀ w,(zeroValue 98).run Tryd.prog w = .ok (.agg (arr .i64 ze)) w):=acD (by intro w;rw [iM];exact gJ w)
 have dG:Hid (ze.length=16):=acD (by rw [iM];rfl)
 have hE:=Jf n hn
 rw [← iM] at hE
 have bQ:=acD ((bM.two w (arr .i64 ze) ((arr .i64 ze).setIfInBounds 0 (.int .i64 (n:Int))) 98 98).cast (l':=[(w.heap.size,arr .i64 ze, 98),(w.heap.size+1,arr .i64 (ze.set 0 (n:Int)), 98)]) (by rw [← bf]))
 have iO:=acD (bM.two w (arr .i64 ze) (arr .i64 ze) 98 98)
 have HE:=acD hE
 have q0:=aP (iO.out.get 1 rfl) 0 (by rw [dG.out];decide)
 have q1:=aC (iO.out.get 1 rfl) 0
 obtain ⟨cs,hcs⟩:∃ cs,cs=ze.set 0 (n:Int):=⟨_,rfl⟩
 have HOL:Hid (cs.length=16):=acD (by rw [hcs,acM];exact dG.out)
 rw [← hcs] at bQ HE
 clear iM hE hcs iO
 go_enter Tryd.func71, Tryd.ntmps71
 go_wp2_with (first|((with_reducible refine aS 2 ?_);refine aj rfl 98 rfl _ (dN.out _) ?_)|((with_reducible refine aS 3 ?_);refine aj rfl 98 rfl _ (dN.out _) ?_)|((with_reducible refine aS 6 ?_);refine lL rfl rfl (bQ.out.get 1 rfl) rfl (au _ _) Tryd.underlying98 rfl (bJ HOL.out) ?_)|((with_reducible refine aT 2 ?_);refine lS rfl rfl bQ 0 rfl rfl rfl (ay _ _ HOL.out dG.out) (cZ HOL.out) (av _ _) ?_;intro w7 eG))
 (try simp only [Exit.inBlock,Exit.then])
 refine bodyPost_ret (results_cell_row rfl _ _ (w.heap.size) 98 _ (0,0) _ rfl (eG.out.get 0 rfl) Tryd.underlying98 rfl (cZ HOL.out)) rfl ?_
 exact ⟨_,rfl,HE.out,eG.out.below⟩
def jN (xs ys:List Int) (i:Nat):List Int:=tb 16 fun j=>if j < i then xs.getD j 0+ys.getD j 0 else xs.getD j 0
theorem E8 (xs ys:List Int) (h:xs.length=16):jN xs ys 0=xs:=by
 refine Eq.trans (bZ _ _ _ fun i _=>?_) (Dj 16 xs h).symm
 rw [if_neg (by omega)]
theorem Iq (xs ys:List Int):jN xs ys 16=EG xs ys:=bZ _ _ _ fun i hi=>by rw [if_pos hi]
theorem Ip (xs ys:List Int) (i:Nat) (h:i < 16):(jN xs ys i).getD i 0=xs.getD i 0:=by rw [jN,jh _ _ _ h,if_neg (by omega)]
theorem E9 (xs ys:List Int) (i:Nat):(jN xs ys i).set i (xs.getD i 0+ys.getD i 0)=jN xs ys (i+1):=by
 rw [jN,iN]
 refine bZ _ _ _ fun j _=>?_
 by_cases e:j=i
 ·subst e;rw [if_pos rfl,if_pos (by omega)]
 ·rw [if_neg e]
  by_cases e3:j < i
  ·rw [if_pos e3,if_pos (by omega)]
  ·rw [if_neg e3,if_neg (by omega)]
theorem iW (xs ys:List Int) (a b:Nat) (w:World) (hx:El xs a) (hy:El ys b) :
  Calls Tryd.prog 77 #[.agg (arr .i64 xs), .agg (arr .i64 ys)] w fun e w'=>∃ zs,e = .returned (.agg (arr .i64 zs))∧El zs (aL a b)∧Below w.heap.size w w':=by
 obtain ⟨ze,iM⟩:∃ zs:List Int,zs=acE 16 0:=⟨_,rfl⟩
 have dN:Hid (∀ w,(zeroValue 98).run Tryd.prog w = .ok (.agg (arr .i64 ze)) w):=acD (by intro w;rw [iM];exact gJ w)
 have dG:Hid (ze.length=16):=acD (by rw [iM];rfl)
 have bQ:=acD (bM.three w (arr .i64 xs) (arr .i64 ys) (arr .i64 ze) 98 98 98)
 have HX:=acD hx
 have HY:=acD hy
 have HE:=acD (El.add hx hy)
 have HC:=acD (fun w=>iF (EG xs ys) w (dU _ _) (zo _ _ _ fun i _=>by
  have h1:=bT xs 1048576 hx.2.1 (by decide) i
  have h2:=bT ys 1048576 hy.2.1 (by decide) i
  omega))
 obtain ⟨rs,hrs⟩:∃ rs,rs=carry (EG xs ys):=⟨_,rfl⟩
 rw [← hrs] at HE HC
 have iG:Hid (rs.length=16):=acD (by rw [hrs];exact gW _)
 obtain ⟨ss,hss⟩:∃ ss,ss=EG xs ys:=⟨_,rfl⟩
 have HSL:Hid (ss.length=16):=acD (by rw [hss];exact dU _ _)
 rw [← hss] at HC
 have HSS:=acD hss
 clear iM hx hy hrs hss
 go_enter Tryd.func77, Tryd.ntmps77
 go_wp2_with (first|((with_reducible refine aS 4 ?_);refine aj rfl 98 rfl _ (dN.out _) ?_))
 go_loopw [5] (fun v wr=>∃ i:Nat,i≤16∧v = .int .i64 i∧∃ cs:List Int,cs=jN xs ys i∧bM w wr [(w.heap.size,arr .i64 cs, 98),(w.heap.size+1,arr .i64 ys, 98),(w.heap.size+1+1,arr .i64 ze, 98)]) (fun v _=>16 - (intOf v).toNat)
 case atStart=>exact ⟨0,acG _,rfl,_,(E8 xs ys HX.out.1).symm,bQ.out⟩
 clear bQ
 case round =>
 obtain ⟨i,hi,rfl,cs,hcs,hB⟩:=hrel
 have cl:cs.length=16:=by rw [hcs];exact dU _ _
 by_cases hlt:i < 16
 ·have q0:=aP (hB.get 0 rfl) i (by rw [cl];exact hlt)
  have q1:=aP (hB.get 1 rfl) i (by rw [HY.out.1];exact hlt)
  have q3:=aC (hB.get 0 rfl) i
  rw [hcs,Ip xs ys i hlt] at q0
  have b0:=bT xs 1048576 HX.out.2.1 (by decide) i
  have b1:=bT ys 1048576 HY.out.2.1 (by decide) i
  have st:=E9 xs ys i
  generalize xs.getD i 0=x at q0 b0 st
  generalize ys.getD i 0=y at q1 b1 st
  have hb1:=hB.cell 0 rfl i (.int .i64 (x+y))
  have e2:(arr .i64 cs).setIfInBounds i (.int .i64 (x+y))=arr .i64 (jN xs ys (i+1)):=by rw [bf,hcs,st]
  have HB1:=acD (hb1.cast (l':=[(w.heap.size,arr .i64 (jN xs ys (i+1)), 98),(w.heap.size+1,arr .i64 ys, 98),(w.heap.size+1+1,arr .i64 ze, 98)]) (by rw [← e2];rfl))
  clear hb1 e2 hcs hB st cl
  go_wp2_with fail
  go_region
  go_wp2_with fail
  go_roundw
  case rel=>exact ⟨i+1,by omega,by go_num,_,rfl,HB1.out.drew⟩
  case measure=>simp [intOf];omega
 ·obtain rfl:i=16:=by omega
  rw [Iq,← HSS.out] at hcs
  subst hcs
  have HB2:=acD hB
  clear hB cl
  go_wp2_with (first|((with_reducible refine aS 19 ?_);refine lL rfl rfl (HB2.out.get 0 rfl) rfl (au _ _) Tryd.underlying98 rfl (bJ HSL.out) ?_)|((with_reducible show Calls _ _ #[.agg _] _ _);go_at_call 88; refine lC (HC.out _) HB2 ?_;intro w6 ko)|((with_reducible refine aT 4 ?_);refine lS rfl rfl ko 2 rfl rfl rfl (ay _ _ iG.out dG.out) (cZ iG.out) (av _ _) ?_;intro w7 eG))
  (try simp only [Exit.inBlock,Exit.then])
  refine bodyPost_ret (results_cell_row rfl _ _ (w.heap.size+1+1) 98 _ (0,0) _ rfl (eG.out.get 2 rfl) Tryd.underlying98 rfl (cZ iG.out)) rfl ?_
  exact ⟨_,rfl,HE.out,eG.out.below⟩
def jM (xs ys:List Int) (i:Nat):List Int:=tb 16 fun j=>if j < i then xs.getD j 0 - ys.getD j 0 else xs.getD j 0
theorem EZ (xs ys:List Int) (h:xs.length=16):jM xs ys 0=xs:=by
 refine Eq.trans (bZ _ _ _ fun i _=>?_) (Dj 16 xs h).symm
 rw [if_neg (by omega)]
theorem Io (xs ys:List Int):jM xs ys 16=AP xs ys:=bZ _ _ _ fun i hi=>by rw [if_pos hi]
theorem Il (xs ys:List Int) (i:Nat) (h:i < 16):(jM xs ys i).getD i 0=xs.getD i 0:=by rw [jM,jh _ _ _ h,if_neg (by omega)]
theorem E5 (xs ys:List Int) (i:Nat):(jM xs ys i).set i (xs.getD i 0 - ys.getD i 0)=jM xs ys (i+1):=by
 rw [jM,iN]
 refine bZ _ _ _ fun j _=>?_
 by_cases e:j=i
 ·subst e;rw [if_pos rfl,if_pos (by omega)]
 ·rw [if_neg e]
  by_cases e3:j < i
  ·rw [if_pos e3,if_pos (by omega)]
  ·rw [if_neg e3,if_neg (by omega)]
theorem ji (xs ys:List Int) (a b:Nat) (w:World) (hx:El xs a) (hy:El ys b) :
  Calls Tryd.prog 78 #[.agg (arr .i64 xs), .agg (arr .i64 ys)] w fun e w'=>∃ zs,e = .returned (.agg (arr .i64 zs))∧El zs (aX a b)∧Below w.heap.size w w':=by
 obtain ⟨ze,iM⟩:∃ zs:List Int,zs=acE 16 0:=⟨_,rfl⟩
 have dN:Hid (∀ w,(zeroValue 98).run Tryd.prog w = .ok (.agg (arr .i64 ze)) w):=acD (by intro w;rw [iM];exact gJ w)
 have dG:Hid (ze.length=16):=acD (by rw [iM];rfl)
 have bQ:=acD (bM.three w (arr .i64 xs) (arr .i64 ys) (arr .i64 ze) 98 98 98)
 have HX:=acD hx
 have HY:=acD hy
 have HE:=acD (El.sub hx hy)
 have HC:=acD (fun w=>iF (AP xs ys) w (dU _ _) (zo _ _ _ fun i _=>by
  have h1:=bT xs 1048576 hx.2.1 (by decide) i
  have h2:=bT ys 1048576 hy.2.1 (by decide) i
  omega))
 obtain ⟨rs,hrs⟩:∃ rs,rs=carry (AP xs ys):=⟨_,rfl⟩
 rw [← hrs] at HE HC
 have iG:Hid (rs.length=16):=acD (by rw [hrs];exact gW _)
 obtain ⟨ss,hss⟩:∃ ss,ss=AP xs ys:=⟨_,rfl⟩
 have HSL:Hid (ss.length=16):=acD (by rw [hss];exact dU _ _)
 rw [← hss] at HC
 have HSS:=acD hss
 clear iM hx hy hrs hss
 go_enter Tryd.func78, Tryd.ntmps78
 go_wp2_with (first|((with_reducible refine aS 4 ?_);refine aj rfl 98 rfl _ (dN.out _) ?_))
 go_loopw [5] (fun v wr=>∃ i:Nat,i≤16∧v = .int .i64 i∧∃ cs:List Int,cs=jM xs ys i∧bM w wr [(w.heap.size,arr .i64 cs, 98),(w.heap.size+1,arr .i64 ys, 98),(w.heap.size+1+1,arr .i64 ze, 98)]) (fun v _=>16 - (intOf v).toNat)
 case atStart=>exact ⟨0,acG _,rfl,_,(EZ xs ys HX.out.1).symm,bQ.out⟩
 clear bQ
 case round =>
 obtain ⟨i,hi,rfl,cs,hcs,hB⟩:=hrel
 have cl:cs.length=16:=by rw [hcs];exact dU _ _
 by_cases hlt:i < 16
 ·have q0:=aP (hB.get 0 rfl) i (by rw [cl];exact hlt)
  have q1:=aP (hB.get 1 rfl) i (by rw [HY.out.1];exact hlt)
  have q3:=aC (hB.get 0 rfl) i
  rw [hcs,Il xs ys i hlt] at q0
  have b0:=bT xs 1048576 HX.out.2.1 (by decide) i
  have b1:=bT ys 1048576 HY.out.2.1 (by decide) i
  have st:=E5 xs ys i
  generalize xs.getD i 0=x at q0 b0 st
  generalize ys.getD i 0=y at q1 b1 st
  have hb1:=hB.cell 0 rfl i (.int .i64 (x - y))
  have e2:(arr .i64 cs).setIfInBounds i (.int .i64 (x - y))=arr .i64 (jM xs ys (i+1)):=by rw [bf,hcs,st]
  have HB1:=acD (hb1.cast (l':=[(w.heap.size,arr .i64 (jM xs ys (i+1)), 98),(w.heap.size+1,arr .i64 ys, 98),(w.heap.size+1+1,arr .i64 ze, 98)]) (by rw [← e2];rfl))
  clear hb1 e2 hcs hB st cl
  go_wp2_with fail
  go_region
  go_wp2_with fail
  go_roundw
  case rel=>exact ⟨i+1,by omega,by go_num,_,rfl,HB1.out.drew⟩
  case measure=>simp [intOf];omega
 ·obtain rfl:i=16:=by omega
  rw [Io,← HSS.out] at hcs
  subst hcs
  have HB2:=acD hB
  clear hB cl
  go_wp2_with (first|((with_reducible refine aS 19 ?_);refine lL rfl rfl (HB2.out.get 0 rfl) rfl (au _ _) Tryd.underlying98 rfl (bJ HSL.out) ?_)|((with_reducible show Calls _ _ #[.agg _] _ _);go_at_call 88; refine lC (HC.out _) HB2 ?_;intro w6 ko)|((with_reducible refine aT 4 ?_);refine lS rfl rfl ko 2 rfl rfl rfl (ay _ _ iG.out dG.out) (cZ iG.out) (av _ _) ?_;intro w7 eG))
  (try simp only [Exit.inBlock,Exit.then])
  refine bodyPost_ret (results_cell_row rfl _ _ (w.heap.size+1+1) 98 _ (0,0) _ rfl (eG.out.get 2 rfl) Tryd.underlying98 rfl (cZ iG.out)) rfl ?_
  exact ⟨_,rfl,HE.out,eG.out.below⟩
end Go.Proofs.YthdgbgleklkaiaaDoor.Rd
namespace Go.Proofs.YthdgbgleklkaiaaDoor.Rd
open Go.RowKit Lm Fp
theorem zero_31 (w:World):(zeroValue 136).run Tryd.prog w = .ok (.agg (arr .i64 (acE 31 0))) w:=by kernel_rfl
def mf (ts:List Int) (i:Nat):List Int:=tb 16 fun j=>if j < i then (if j < 15 then ts.getD j 0+38 * ts.getD (j+16) 0 else ts.getD j 0) else 0
theorem mf_zero (ts:List Int):acE 16 0=mf ts 0:=by
 rw [tY]
 exact bZ _ _ _ fun j _=>by rw [if_neg (by omega)]
theorem mf_all (ts:List Int):mf ts 16=foldr ts:=bZ _ _ _ fun _ hj=>if_pos hj
theorem P6 (ts:List Int) (i:Nat) (v:Int) (h:(if i < 15 then ts.getD i 0+38 * ts.getD (i+16) 0 else ts.getD i 0)=v):(mf ts i).set i v=mf ts (i+1):=by
 subst h
 rw [mf,iN]
 refine bZ _ _ _ fun j _=>?_
 by_cases e:j=i
 ·subst e;rw [if_pos rfl,if_pos (show j < j+1 by omega)]
 ·rw [if_neg e]
  by_cases e3:j < i
  ·rw [if_pos e3,if_pos (show j < i+1 by omega)]
  ·rw [if_neg e3,if_neg (show ¬ j < i+1 by omega)]
theorem bL (xs ys:List Int) (a b:Nat) (w:World) (hx:El xs a) (hy:El ys b) :
  Calls Tryd.prog 68 #[.agg (arr .i64 xs), .agg (arr .i64 ys)] w fun e w'=>∃ zs,e = .returned (.agg (arr .i64 zs))∧El zs (aA a b)∧Below w.heap.size w w':=by
 obtain ⟨ze,iM⟩:∃ zs:List Int,zs=acE 16 0:=⟨_,rfl⟩
 have dN:Hid (∀ w,(zeroValue 98).run Tryd.prog w = .ok (.agg (arr .i64 ze)) w):=acD (by intro w;rw [iM];exact gJ w)
 have dG:Hid (ze.length=16):=acD (by rw [iM];rfl)
 obtain ⟨zt,Cq⟩:∃ zs:List Int,zs=acE 31 0:=⟨_,rfl⟩
 have HZt:Hid (∀ w,(zeroValue 136).run Tryd.prog w = .ok (.agg (arr .i64 zt)) w):=acD (by intro w;rw [Cq];exact zero_31 w)
 have HLt:Hid (zt.length=31):=acD (by rw [Cq];rfl)
 have HVt:Hid (vi zt=0):=acD (by rw [Cq];decide)
 have HGt:Hid (∀ n,zt.getD n 0=0):=acD (by intro n;rw [Cq,List.getD,List.getElem?_replicate];split <;> rfl)
 have HZ0:Hid (∀ ts,ze=mf ts 0):=acD (fun ts=>by rw [iM];exact mf_zero ts)
 have HX:=acD hx
 have HY:=acD hy
 have HXB:=acD (bT xs 1048576 hx.2.1 (by decide))
 have HYB:=acD (bT ys 1048576 hy.2.1 (by decide))
 have HYV:Hid (si 16 (fun j=>65536 ^ j * ys.getD j 0)=vi ys):=acD (mh 16 ys hy.1).symm
 have HXV:Hid (si 16 (fun j=>65536 ^ j * xs.getD j 0)=vi xs):=acD (mh 16 xs hx.1).symm
 have bQ:=acD (bM.four w (arr .i64 xs) (arr .i64 ys) (arr .i64 ze) (arr .i64 zt) 98 98 98 136)
 clear iM Cq hx hy
 go_enter Tryd.func68, Tryd.ntmps68
 go_wp2_with (first|((with_reducible refine aS 4 ?_);refine aj rfl 98 rfl _ (dN.out _) ?_)|((with_reducible refine aS 5 ?_);refine aj rfl 136 rfl _ (HZt.out _) ?_))
 go_loopw [6] (fun v wr=>∃ i:Nat,i≤16∧v = .int .i64 i∧∃ ts:List Int,ts.length=31∧(∀ n, -(1099511627776 * (i:Int))≤ts.getD n 0∧ts.getD n 0≤1099511627776 * (i:Int))∧vi ts=si i (fun j=>65536 ^ j * xs.getD j 0) * vi ys∧bM w wr [(w.heap.size,arr .i64 xs, 98),(w.heap.size+1,arr .i64 ys, 98),(w.heap.size+1+1,arr .i64 ze, 98),(w.heap.size+1+1+1,arr .i64 ts, 136)]) (fun v _=>16 - (intOf v).toNat)
 case atStart=>exact ⟨0,acG _,rfl,zt,HLt.out,(by intro n;rw [HGt.out n];omega),(by rw [HVt.out,si,Int.zero_mul]),bQ.out⟩
 clear bQ
 case round =>
 obtain ⟨i,hi,rfl,ts,tl,Ut,tv,hB⟩:=hrel
 by_cases hlt:i < 16
 ·have HB:=acD hB
  have qZ:=acD tl
  have HTB:=acD Ut
  have HTV:=acD tv
  clear hB tl Ut tv
  go_wp2_with fail
  generalize Value.bool (decide ((i:Int) < 16))=u11'
  go_loopw [7] (fun v wr=>∃ k:Nat,k≤16∧v = .int .i64 k∧∃ us:List Int,us.length=31∧(∀ n, -(1099511627776 * ((i:Int)+if i≤n∧n < i+k then 1 else 0))≤us.getD n 0∧us.getD n 0≤1099511627776 * ((i:Int)+if i≤n∧n < i+k then 1 else 0))∧vi us=si i (fun j=>65536 ^ j * xs.getD j 0) * vi ys+65536 ^ i * xs.getD i 0 * si k (fun j=>65536 ^ j * ys.getD j 0)∧bM w wr [(w.heap.size,arr .i64 xs, 98),(w.heap.size+1,arr .i64 ys, 98),(w.heap.size+1+1,arr .i64 ze, 98),(w.heap.size+1+1+1,arr .i64 us, 136)]) (fun v _=>16 - (intOf v).toNat)
  case atStart=>exact ⟨0,acG _,rfl,ts,qZ.out,(by intro n;rw [if_neg (by omega)];have:=HTB.out n;omega),(by rw [HTV.out,si,Int.mul_zero,Int.add_zero]),HB.out⟩
  case round =>
   obtain ⟨k,hk,rfl,us,ul,ub,uv,hU⟩:=hrel
   by_cases hlk:k < 16
   ·have q0:=aP (hU.get 0 rfl) i (by rw [HX.out.1];exact hlt)
    have q1:=aP (hU.get 1 rfl) k (by rw [HY.out.1];exact hlk)
    have q2:=aP (hU.get 3 rfl) (i+k) (by rw [ul];omega)
    have q3:=aC (hU.get 3 rfl) (i+k)
    have pb:=prod_bound xs ys us i k HXB.out HYB.out hlt hlk ul ub
    have ps:=R6 xs ys us i k hlt hlk ul _ uv
    have ub0:=ub (i+k)
    rw [if_neg (by omega)] at ub0
    have hp : -1099511627776≤xs.getD i 0 * ys.getD k 0∧xs.getD i 0 * ys.getD k 0≤1099511627776:=by
     have h1:=HXB.out i
     have h2:=HYB.out k
     generalize xs.getD i 0=x at h1
     generalize ys.getD k 0=y at h2
     have e:=Int.natAbs_mul x y
     have a1:x.natAbs≤1048576:=by omega
     have a2:y.natAbs≤1048576:=by omega
     have:=Nat.mul_le_mul a1 a2
     omega
    have HPB:=acD pb
    have FZ:=acD ps
    have Em:Hid ((us.set (i+k) (us.getD (i+k) 0+xs.getD i 0 * ys.getD k 0)).length=31):=acD (by rw [acM,ul])
    have hb1:=hU.cell 3 rfl (i+k) (.int .i64 (us.getD (i+k) 0+xs.getD i 0 * ys.getD k 0))
    obtain ⟨vs,hvs⟩:∃ vs,vs=us.set (i+k) (us.getD (i+k) 0+xs.getD i 0 * ys.getD k 0):=⟨_,rfl⟩
    have e2:(arr .i64 us).setIfInBounds (i+k) (.int .i64 (us.getD (i+k) 0+xs.getD i 0 * ys.getD k 0))=arr .i64 vs:=by rw [bf,hvs]
    have HB1:=acD (hb1.cast (l':=[(w.heap.size,arr .i64 xs, 98),(w.heap.size+1,arr .i64 ys, 98),(w.heap.size+1+1,arr .i64 ze, 98),(w.heap.size+1+1+1,arr .i64 vs, 136)]) (by rw [← e2];rfl))
    rw [← hvs] at HPB FZ Em
    clear hb1 e2 hvs hU ul ub uv pb ps
    generalize us.getD (i+k) 0=u at q2 ub0 HB1
    generalize xs.getD i 0=x at q0 hp FZ HB1
    generalize ys.getD k 0=y at q1 hp HB1
    go_wp2_with fail
    go_region
    go_wp2_with fail
    go_roundw
    case rel=>exact ⟨k+1,by omega,by go_num,vs,Em.out,HPB.out,FZ.out,HB1.out.drew⟩
    case measure=>simp [intOf];omega
   ·obtain rfl:k=16:=by omega
    rw [HYV.out] at uv
    have HU:=acD hU
    have JW:=acD ul
    have HUB:Hid (∀ n, -(1099511627776 * ((i+1:Nat):Int))≤us.getD n 0∧us.getD n 0≤1099511627776 * ((i+1:Nat):Int)):=acD (by
     intro n
     have:=ub n
     by_cases e:i≤n∧n < i+16
     ·rw [if_pos e] at this;omega
     ·rw [if_neg e] at this;omega)
    have HUV:Hid (vi us=si (i+1) (fun j=>65536 ^ j * xs.getD j 0) * vi ys):=acD (by rw [uv,si,Int.add_mul])
    clear hU ul ub uv HB qZ HTB HTV
    go_wp2_with fail
    go_roundw
    case rel=>exact ⟨i+1,by omega,by go_num,us,JW.out,HUB.out,HUV.out,HU.out⟩
    case measure=>simp [intOf];omega
 ·obtain rfl:i=16:=by omega
  rw [HXV.out] at tv
  have hf:=El.mul HX.out HY.out tl (by intro n;have:=Ut n;omega) tv
  have fb:∀ x∈foldr ts, -1125899906842624≤x∧x≤1125899906842624:=zo _ _ _ fun i _=>by
   have h1:=Ut i
   have h2:=Ut (i+16)
   split <;> omega
  have n1:jZ (38 * 17180200000) (carry (foldr ts)):=kZ _ 1125899906842624 17180200000 (bT _ _ fb (by decide)) (by decide) (by decide)
  have yX:=acD (fun w=>iF (foldr ts) w (dU _ _) (fun x hx=>by have:=fb x hx;omega))
  have Og:=acD (fun w=>iF (carry (foldr ts)) w (gW _) (fun x hx=>by have:=mU n1 (by decide) x hx;omega))
  obtain ⟨rs,hrs⟩:∃ rs,rs=carry (carry (foldr ts)):=⟨_,rfl⟩
  have iG:Hid (rs.length=16):=acD (by rw [hrs];exact gW _)
  rw [← hrs] at hf Og
  obtain ⟨cs1,hcs1⟩:∃ cs,cs=carry (foldr ts):=⟨_,rfl⟩
  rw [← hcs1] at yX Og
  have HF:=acD hf
  have HTB:=acD Ut
  have qZ:=acD tl
  have HB:=acD (hB.alloc (arr .i64 ze) 98)
  clear hf fb n1 hrs hcs1 Ut tl tv hB
  go_wp2_with (first|((with_reducible refine aS 8 ?_);refine aj rfl 98 rfl _ (dN.out _) ?_))
  generalize wr.heap.size=go at HB ⊢
  go_loopw [9] (fun v wq=>∃ i:Nat,i≤16∧v = .int .i64 i∧∃ os:List Int,os=mf ts i∧bM w wq [(w.heap.size,arr .i64 xs, 98),(w.heap.size+1,arr .i64 ys, 98),(w.heap.size+1+1,arr .i64 ze, 98),(w.heap.size+1+1+1,arr .i64 ts, 136),(go,arr .i64 os, 98)]) (fun v _=>16 - (intOf v).toNat)
  case atStart=>exact ⟨0,acG _,rfl,_,HZ0.out ts,HB.out⟩
  case round =>
   obtain ⟨i,hi,rfl,os,hos,hQ⟩:=hrel
   have ol:os.length=16:=by rw [hos];exact dU _ _
   by_cases hlo:i < 16
   ·have q0:=aP (hQ.get 3 rfl) i (by rw [qZ.out];omega)
    have q2:=aP (hQ.get 4 rfl) i (by rw [ol];exact hlo)
    have q3:=aC (hQ.get 4 rfl) i
    have b0:=HTB.out i
    by_cases h15:i < 15
    ·have q1:=aP (hQ.get 3 rfl) (i+16) (by rw [qZ.out];omega)
     have b1:=HTB.out (i+16)
     have st:=P6 ts i _ (if_pos h15)
     generalize ts.getD i 0=x at q0 b0 st
     generalize ts.getD (i+16) 0=y at q1 b1 st
     have hb1:=(hQ.cell 4 rfl i (.int .i64 x)).cell 4 rfl i (.int .i64 (x+38 * y))
     have e2:((arr .i64 os).setIfInBounds i (.int .i64 x)).setIfInBounds i (.int .i64 (x+38 * y))=arr .i64 (mf ts (i+1)):=by rw [bf,bf,List.set_set,hos,st]
     have HB1:=acD (hb1.cast (l':=[(w.heap.size,arr .i64 xs, 98),(w.heap.size+1,arr .i64 ys, 98),(w.heap.size+1+1,arr .i64 ze, 98),(w.heap.size+1+1+1,arr .i64 ts, 136),(go,arr .i64 (mf ts (i+1)), 98)]) (by rw [← e2];rfl))
     clear hb1 e2 hos hQ st ol
     go_wp2_with fail
     go_region
     go_wp2_with fail
     go_roundw
     case rel=>exact ⟨i+1,by omega,by go_num,_,rfl,HB1.out.drew⟩
     case measure=>simp [intOf];omega
    ·have st:=P6 ts i _ (if_neg h15)
     generalize ts.getD i 0=x at q0 b0 st
     have hb1:=hQ.cell 4 rfl i (.int .i64 x)
     have e2:(arr .i64 os).setIfInBounds i (.int .i64 x)=arr .i64 (mf ts (i+1)):=by rw [bf,hos,st]
     have HB1:=acD (hb1.cast (l':=[(w.heap.size,arr .i64 xs, 98),(w.heap.size+1,arr .i64 ys, 98),(w.heap.size+1+1,arr .i64 ze, 98),(w.heap.size+1+1+1,arr .i64 ts, 136),(go,arr .i64 (mf ts (i+1)), 98)]) (by rw [← e2];rfl))
     clear hb1 e2 hos hQ st ol
     go_wp2_with fail
     go_roundw
     case rel=>exact ⟨i+1,by omega,by go_num,_,rfl,HB1.out⟩
     case measure=>simp [intOf];omega
   ·obtain rfl:i=16:=by omega
    rw [mf_all] at hos
    rw [← hos] at yX
    have HQ:=acD hQ
    have HOL:=acD ol
    clear hQ ol hos HB
    go_wp2_with (first|((with_reducible refine aS 57 ?_);refine lL rfl rfl (HQ.out.get 4 rfl) rfl (au _ _) Tryd.underlying98 rfl (bJ HOL.out) ?_)|((with_reducible show Calls _ _ #[.agg (arr _ os)] _ _);go_at_call 88; refine lC (yX.out _) HQ ?_;intro w6 ko)|((with_reducible show Calls _ _ #[.agg (arr _ cs1)] _ _);go_at_call 88; refine lC (Og.out _) ko ?_;intro w7 eG)|((with_reducible refine aT 4 ?_);refine lS rfl rfl eG 2 rfl rfl rfl (ay _ _ iG.out dG.out) (cZ iG.out) (av _ _) ?_;intro w8 fC))
    (try simp only [Exit.inBlock,Exit.then])
    refine bodyPost_ret (results_cell_row rfl _ _ (w.heap.size+1+1) 98 _ (0,0) _ rfl (fC.out.get 2 rfl) Tryd.underlying98 rfl (cZ iG.out)) rfl ?_
    exact ⟨_,rfl,HF.out,fC.out.below⟩
end Go.Proofs.YthdgbgleklkaiaaDoor.Rd
namespace Go.Proofs.YthdgbgleklkaiaaDoor.Rd
open Go.RowKit Lm Fp
theorem and1 (d:Int) (h:d = -1∨d=0):bits .and .i64 d 1 = -d:=by rcases h with rfl|rfl <;> decide
theorem toNat_ofInt64 (x:Int):((acF 64 x).toNat:Int)=x % 18446744073709551616:=by
 rw [BitVec.toNat_ofInt]
 have:=Int.emod_nonneg x (show (18446744073709551616:Int)≠0 by decide)
 exact Int.toNat_of_nonneg this
theorem andFF (x:Int):bits .and .i64 x 65535=x % 65536:=by
 have h1:=toNat_ofInt64 x
 have h2:(acF 64 (65535:Int)).toNat=65535:=by decide
 show IntKind.i64.wrap ((acF 64 x &&& acF 64 (65535:Int)).toNat:Int)=_
 rw [acN,h2,show 65535=2 ^ 16 - 1 from rfl,acO,IntKind.wrap_i64]
 omega
theorem andF (x:Int):IntKind.u8.wrap (bits .and .i64 x 255)=x % 256:=by
 have h1:=toNat_ofInt64 x
 have h2:(acF 64 (255:Int)).toNat=255:=by decide
 show IntKind.u8.wrap (IntKind.i64.wrap ((acF 64 x &&& acF 64 (255:Int)).toNat:Int))=_
 rw [acN,h2,show 255=2 ^ 8 - 1 from rfl,acO,IntKind.wrap_i64,IntKind.wrap_u8]
 omega
def it (V:Nat):Nat→Nat
 | 0=>V
 | k+1=>ru (it V k)
theorem WY (V:Nat) (h:V < 65536 ^ 16):it V 3=V % p:=by
 have e:=SF V (Nat.lt_of_lt_of_le h (by decide))
 show ru (ru (ru V))=_
 rw [e,ru,if_pos (Nat.mod_lt _ zW)]
theorem nR (xs:List Int) (a:Nat) (w:World) (hx:El xs a) :
  Calls Tryd.prog 67 #[.agg (arr .i64 xs)] w fun e w'=>e = .returned (.agg (arr .u8 (aW (bD 256 32 a))))∧Below w.heap.size w w':=by
 obtain ⟨ze,iM⟩:∃ zs:List Int,zs=acE 16 0:=⟨_,rfl⟩
 have dN:Hid (∀ w,(zeroValue 98).run Tryd.prog w = .ok (.agg (arr .i64 ze)) w):=acD (by intro w;rw [iM];exact gJ w)
 have dG:Hid (ze.length=16):=acD (by rw [iM];rfl)
 obtain ⟨zn,hzn⟩:∃ zs:List Int,zs=acE 32 0:=⟨_,rfl⟩
 have dA:Hid (∀ w,(zeroValue 23).run Tryd.prog w = .ok (.agg (arr .u8 zn)) w):=acD (by intro w;rw [hzn];exact zero_num w)
 have cK:Hid (zn.length=32):=acD (by rw [hzn];rfl)
 have HZ0:Hid (∀ us,zn=outs us 0):=acD (fun us=>by rw [hzn];exact R9 us)
 have HZ1:Hid (∀ ds:List Int,ze.set 0 (ds.getD 0 0)=sb ds 1):=acD (fun ds=>by rw [iM];exact sb_one ds)
 have HZG:Hid (ze.getD 0 0=0):=acD (by rw [iM];rfl)
 obtain ⟨f1,f2⟩:=Tg hx
 have n1:jZ (38 * 17) (carry xs):=kZ xs 1048576 17 (bT xs 1048576 hx.2.1 (by decide)) (by decide) (by decide)
 have n2:jZ 38 (carry (carry xs)):=qz _ _ n1 (by decide) (by decide)
 have n3:=qA _ n2
 have HC0:=acD (fun w=>iF xs w hx.1 (fun x h=>by have:=hx.2.1 x h;omega))
 have yX:=acD (fun w=>iF (carry xs) w (gW _) (fun x h=>by have:=mU n1 (by decide) x h;omega))
 have Og:=acD (fun w=>iF (carry (carry xs)) w (gW _) (fun x h=>by have:=mU n2 (by decide) x h;omega))
 have HC3:=acD (fun w=>iF (carry (carry (carry xs))) w (gW _) (fun x h=>by have:=mU n3 (by decide) x h;omega))
 obtain ⟨c4,h4⟩:∃ c,c=carry (carry (carry (carry xs))):=⟨_,rfl⟩
 rw [← h4] at f1 f2 HC3
 clear h4
 obtain ⟨c3,h3⟩:∃ c,c=carry (carry (carry xs)):=⟨_,rfl⟩
 rw [← h3] at Og HC3
 clear h3
 obtain ⟨c2,h2⟩:∃ c,c=carry (carry xs):=⟨_,rfl⟩
 rw [← h2] at yX Og
 clear h2
 obtain ⟨c1,h1⟩:∃ c,c=carry xs:=⟨_,rfl⟩
 rw [← h1] at HC0 yX
 clear h1 n1 n2 n3
 obtain ⟨c0,h0⟩:∃ c,c=xs:=⟨_,rfl⟩
 rw [← h0] at HC0 hx ⊢
 obtain ⟨V,hV⟩:=Si f1
 have HN4:=acD f1
 have HV:=acD hV
 have hV2:=(Dz f1 V hV).2
 have HIT:Hid (it V 3=a):=acD (by
  rw [WY V hV2]
  rw [hV,← Int.natCast_emod] at f2
  omega)
 have HL4:=acD f1.1
 have Uq:=acD hx.1
 have bQ:=acD (bM.two w (arr .i64 c0) (arr .u8 zn) 98 23)
 clear iM hzn hx f1 f2 hV hV2 h0
 go_enter Tryd.func67, Tryd.ntmps67
 go_wp2_with (first|((with_reducible refine aS 2 ?_);refine aj rfl 23 rfl _ (dA.out _) ?_)|((with_reducible refine aS 8 ?_);refine lL rfl rfl (bQ.out.get 0 rfl) rfl (au _ _) Tryd.underlying98 rfl (bJ Uq.out) ?_)|((with_reducible show Calls _ _ #[.agg (arr _ c0)] _ _);go_at_call 88; refine lC (HC0.out _) bQ ?_;intro w1 HB1)|((with_reducible show Calls _ _ #[.agg (arr _ c1)] _ _);go_at_call 88; refine lC (yX.out _) HB1 ?_;intro w2 HB2)|((with_reducible show Calls _ _ #[.agg (arr _ c2)] _ _);go_at_call 88; refine lC (Og.out _) HB2 ?_;intro w3 HB3)|((with_reducible show Calls _ _ #[.agg (arr _ c3)] _ _);go_at_call 88; refine lC (HC3.out _) HB3 ?_;intro w4 HB4)|((with_reducible refine aT 1 ?_);refine lS rfl rfl HB4 0 rfl rfl rfl (ay _ _ HL4.out Uq.out) (cZ HL4.out) (av _ _) ?_;intro w5 fM))
 go_loopw [3] (fun v wr=>∃ k:Nat,k≤3∧v = .int .i64 k∧∃ us:List Int,jZ 0 us∧vi us=(it V k:Int)∧bM w wr [(w.heap.size,arr .i64 us, 98),(w.heap.size+1,arr .u8 zn, 23)]) (fun v _=>3 - (intOf v).toNat)
 case atStart=>exact ⟨0,acG _,rfl,c4,HN4.out,HV.out,fM.out⟩
 clear bQ HB1 HB2 HB3 HB4 fM
 case round =>
 obtain ⟨k,hk,rfl,us,un,uv,hB⟩:=hrel
 by_cases hlt:k < 3
 ·obtain ⟨ds,hds⟩:∃ ds,ds=kC us:=⟨_,rfl⟩
  have HUN:=acD un
  have HUV:=acD uv
  have HDS:=acD hds
  have HCR:Hid (∀ j,j < 16 → -65536≤ds.getD j 0+cr ds j∧ds.getD j 0+cr ds j≤65535):=acD (fun j hj=>by
   have h1:=jH un j
   have h2:=wh j
   have h3:=FI un j (by omega)
   rw [hds,mY us j hj]
   omega)
  have b0:=jH un 0
  have e0:us.getD 0 0 - 65517=ds.getD 0 0:=by rw [hds,mY us 0 (by decide)];rfl
  have hb1:=hB.alloc (arr .i64 ze) 98
  have q0:=aP (hb1.get 0 rfl) 0 (by rw [un.1];decide)
  have q1:=aP (hb1.get 2 rfl) 0 (by rw [dG.out];decide)
  have q2:=aC (hb1.get 2 rfl) 0
  have HBM:Hid (bM w (wr.alloc (.cells ((arr .i64 ze).setIfInBounds 0 (.int .i64 (us.getD 0 0 - 65517))) 98)) [(w.heap.size,arr .i64 us, 98),(w.heap.size+1,arr .u8 zn, 23),(wr.heap.size,arr .i64 (sb ds 1), 98)]):=acD ((hB.alloc ((arr .i64 ze).setIfInBounds 0 (.int .i64 (us.getD 0 0 - 65517))) 98).cast (by rw [bf,e0,HZ1.out ds];rfl))
  generalize us.getD 0 0=x at q0 b0 HBM
  clear hB un uv hds e0 hb1
  go_wp2_with (first|((with_reducible refine aS 4 ?_);refine aj rfl 98 rfl _ (dN.out _) ?_))
  generalize wr.heap.size=gm at HBM ⊢
  generalize wr.alloc (.cells ((arr .i64 ze).setIfInBounds 0 (.int .i64 (x - 65517))) 98)=wm at HBM ⊢
  clear q0 q1 q2 b0
  go_loopw [5] (fun v wq=>∃ j:Nat,j≤14∧v = .int .i64 ((j:Int)+1)∧∃ ms:List Int,ms=sb ds (j+1)∧bM w wq [(w.heap.size,arr .i64 us, 98),(w.heap.size+1,arr .u8 zn, 23),(gm,arr .i64 ms, 98)]) (fun v _=>15 - (intOf v).toNat)
  case atStart=>exact ⟨0,acG _,rfl,_,rfl,HBM.out⟩
  case round =>
   obtain ⟨j,hj,rfl,ms,hms,hQ⟩:=hrel
   have ml:ms.length=16:=by rw [hms];exact dU _ _
   have mg:=sb_get ds j (by omega)
   have cb:=HCR.out j (by omega)
   by_cases hlo:j < 14
   ·have q0:=aP (hQ.get 0 rfl) (j+1) (by rw [HUN.out.1];omega)
    have q1:=aP (hQ.get 2 rfl) j (by rw [ml];omega)
    have q2:=aP (hQ.get 2 rfl) (j+1) (by rw [ml];omega)
    have q3:=aC (hQ.get 2 rfl) (j+1)
    have q4:=aC (hQ.get 2 rfl) j
    have b0:=jH HUN.out (j+1)
    have e0:us.getD (j+1) 0 - 65535=ds.getD (j+1) 0:=by rw [HDS.out,mY us (j+1) (by omega),P16_get (j+1) (by omega) (by omega)]
    rw [hms,mg] at q1
    have st:=fun x hx=>O9 ds j x (by omega) hx
    generalize hx:ds.getD j 0+cr ds j=x at q1 st cb
    have st:=st x rfl
    rw [← e0] at st
    generalize us.getD (j+1) 0=y at q0 b0 st
    have ha:=and1 (x / 65536) (by omega)
    have hf:=andFF x
    have hb1:=(hQ.cell 2 rfl (j+1) (.int .i64 (y - 65535 - bits .and .i64 (x / 65536) 1))).cell 2 rfl j (.int .i64 (bits .and .i64 x 65535))
    have e2:((arr .i64 ms).setIfInBounds (j+1) (.int .i64 (y - 65535 - bits .and .i64 (x / 65536) 1))).setIfInBounds j (.int .i64 (bits .and .i64 x 65535))=arr .i64 (sb ds (j+1+1)):=by
     rw [ha,hf,bf,bf,hms,show y - 65535 - -(x / 65536)=y - 65535+x / 65536 by omega,st]
    have HB1:=acD ((hb1.drew).cast (l':=[(w.heap.size,arr .i64 us, 98),(w.heap.size+1,arr .u8 zn, 23),(gm,arr .i64 (sb ds (j+1+1)), 98)]) (by rw [← e2];rfl))
    have hbd:bits .and .i64 (x / 65536) 1=0∨bits .and .i64 (x / 65536) 1=1:=by rw [ha];omega
    clear hb1 e2 hms hQ st ml mg hx ha hf e0
    go_wp2_with fail
    go_region
    go_wp2_with fail
    go_roundw
    case rel=>exact ⟨j+1,by omega,by go_num,_,rfl,HB1.out⟩
    case measure=>simp [intOf];omega
   ·obtain rfl:j=14:=by omega
    have q0:=aP (hQ.get 0 rfl) 15 (by rw [HUN.out.1];omega)
    have q1:=aP (hQ.get 2 rfl) 14 (by rw [ml];omega)
    have q2:=aP (hQ.get 2 rfl) 15 (by rw [ml];omega)
    have q3:=aC (hQ.get 2 rfl) 15
    have q4:=aC (hQ.get 2 rfl) 14
    have b0:=jH HUN.out 15
    have e0:us.getD 15 0 - 32767=ds.getD 15 0:=by rw [HDS.out,mY us 15 (by omega)];rfl
    rw [hms,mg] at q1
    have st:=fun x hx=>O9 ds 14 x (by omega) hx
    have sd:=sub_dec HUN.out (it V k) HUV.out
    rw [← HDS.out,← e0] at sd
    have c15:cr ds 15=(ds.getD 14 0+cr ds 14) / 65536:=rfl
    rw [c15] at sd
    generalize hx:ds.getD 14 0+cr ds 14=x at q1 st cb sd
    have st:=st x rfl
    rw [show (14+1:Nat)=15 from rfl,← e0,show (14+2:Nat)=16 from rfl,sb_last] at st
    generalize us.getD 15 0=y at q0 b0 st sd
    have ha:=and1 (x / 65536) (by omega)
    have hf:=andFF x
    have hb1:=(hQ.cell 2 rfl 15 (.int .i64 (y - 32767 - bits .and .i64 (x / 65536) 1))).cell 2 rfl 14 (.int .i64 (bits .and .i64 x 65535))
    have e2:((arr .i64 ms).setIfInBounds 15 (.int .i64 (y - 32767 - bits .and .i64 (x / 65536) 1))).setIfInBounds 14 (.int .i64 (bits .and .i64 x 65535))=arr .i64 (mid ds 15):=by
     rw [ha,hf,bf,bf,hms,show y - 32767 - -(x / 65536)=y - 32767+x / 65536 by omega,st]
    have HB1:=acD (hb1.cast (l':=[(w.heap.size,arr .i64 us, 98),(w.heap.size+1,arr .u8 zn, 23),(gm,arr .i64 (mid ds 15), 98)]) (by rw [← e2];rfl))
    obtain ⟨mm,hmm⟩:∃ m,m=mid ds 15:=⟨_,rfl⟩
    rw [← hmm] at HB1 sd
    have tH:Hid (mm.length=16):=acD (by rw [hmm];exact dU _ _)
    have hbd:bits .and .i64 (x / 65536) 1=0∨bits .and .i64 (x / 65536) 1=1:=by rw [ha];omega
    have hsg:y - 32767 - bits .and .i64 (x / 65536) 1=y - 32767+x / 65536:=by rw [ha];omega
    rcases sd with ⟨s1,s2⟩|⟨s1,s2,s3,s4⟩
    ·have hge:¬ 0≤y - 32767 - bits .and .i64 (x / 65536) 1:=by omega
     have HUW:Hid (vi us=(it V (k+1):Int)):=acD (by rw [HUV.out,it,ru,if_pos s2])
     clear hb1 e2 hms hQ st ml mg hx ha hf e0 c15 s1 s2 hmm hsg
     go_wp2_with fail
     go_roundw
     case rel=>exact ⟨k+1,by omega,by go_num,us,HUN.out,HUW.out,HB1.out.less 2⟩
     case measure=>simp [intOf];omega
    ·have hge:0≤y - 32767 - bits .and .i64 (x / 65536) 1:=by omega
     have HUM:=acD s3
     have HUW:Hid (vi mm=(it V (k+1):Int)):=acD (by rw [s4,it,ru,if_neg (by omega)])
     have JW:=acD HUN.out.1
     clear hb1 e2 hms hQ st ml mg hx ha hf e0 c15 s1 s2 s3 s4 hmm hsg
     go_wp2_with (first|((with_reducible refine aS 62 ?_);refine lL rfl rfl (HB1.out.get 2 rfl) rfl (au _ _) Tryd.underlying98 rfl (bJ tH.out) ?_)|((with_reducible refine aT 1 ?_);refine lS rfl rfl HB1 0 rfl rfl rfl (ay _ _ tH.out JW.out) (cZ tH.out) (av _ _) ?_;intro w7 eG))
     go_roundw
     case rel=>exact ⟨k+1,by omega,by go_num,mm,HUM.out,HUW.out,eG.out.less 2⟩
     case measure=>simp [intOf];omega
 ·obtain rfl:k=3:=by omega
  rw [HIT.out] at uv
  obtain ⟨d1,d2⟩:=Dz un a uv
  have HUN:=acD un
  have HB:=acD (hB.alloc (arr .u8 zn) 23)
  have HOA:Hid (outs us 16=aW (bD 256 32 a)):=acD (by rw [d1];exact Wm a)
  obtain ⟨oa,hoa⟩:∃ o,o=aW (bD 256 32 a):=⟨_,rfl⟩
  rw [← hoa] at HOA
  have HOE:=acD hoa
  clear hB un uv d1 d2 hoa
  go_wp2_with (first|((with_reducible refine aS 6 ?_);refine aj rfl 23 rfl _ (dA.out _) ?_))
  generalize wr.heap.size=gn at HB ⊢
  go_loopw [7] (fun v wq=>∃ i:Nat,i≤16∧v = .int .i64 i∧∃ os:List Int,os=outs us i∧bM w wq [(w.heap.size,arr .i64 us, 98),(w.heap.size+1,arr .u8 zn, 23),(gn,arr .u8 os, 23)]) (fun v _=>16 - (intOf v).toNat)
  case atStart=>exact ⟨0,acG _,rfl,_,HZ0.out us,HB.out⟩
  case round =>
   obtain ⟨i,hi,rfl,os,hos,hQ⟩:=hrel
   have ol:os.length=32:=by rw [hos];exact dU _ _
   by_cases hlo:i < 16
   ·have q0:=aP (hQ.get 0 rfl) i (by rw [HUN.out.1];omega)
    have q3:=aC (hQ.get 2 rfl) (2 * i)
    have q4:=aC (hQ.get 2 rfl) (2 * i+1)
    have q5:=aP (hQ.get 2 rfl) (2 * i) (by rw [ol];omega)
    have q6:=aP (hQ.get 2 rfl) (2 * i+1) (by rw [ol];omega)
    have b0:=jH HUN.out i
    have st:=fun x hx=>Sb us i x hx
    generalize hx:us.getD i 0=x at q0 b0 st
    have st:=st x rfl
    have a0:=andF x
    rw [IntKind.wrap_u8] at a0
    have a1:=andF (x / 256)
    rw [IntKind.wrap_u8] at a1
    have hne:=hQ.ne 0 2 rfl rfl (by decide)
    have hne':=hQ.ne 2 0 rfl rfl (by decide)
    have hb1:=(hQ.cell 2 rfl (2 * i) (.int .u8 (bits .and .i64 x 255 % 256))).cell 2 rfl (2 * i+1) (.int .u8 (bits .and .i64 (x / 256) 255 % 256))
    have e2:((arr .u8 os).setIfInBounds (2 * i) (.int .u8 (bits .and .i64 x 255 % 256))).setIfInBounds (2 * i+1) (.int .u8 (bits .and .i64 (x / 256) 255 % 256))=arr .u8 (outs us (i+1)):=by rw [a0,a1,bf,bf,hos,st]
    have HB1:=acD (hb1.cast (l':=[(w.heap.size,arr .i64 us, 98),(w.heap.size+1,arr .u8 zn, 23),(gn,arr .u8 (outs us (i+1)), 23)]) (by rw [← e2];rfl))
    have m1:(2 * (i:Int)).toNat=2 * i:=by omega
    have m2:(2 * (i:Int)+1).toNat=2 * i+1:=by omega
    clear hb1 e2 hos hQ st ol hx a0 a1
    go_wp2_with fail
    go_roundw
    case rel=>exact ⟨i+1,by omega,by go_num,_,rfl,HB1.out⟩
    case measure=>simp [intOf];omega
   ·obtain rfl:i=16:=by omega
    rw [HOA.out] at hos
    subst hos
    have HQ:=acD hQ
    have HOL:=acD ol
    clear hQ ol
    go_wp2_with (first|((with_reducible refine aS 85 ?_);refine lL rfl rfl (HQ.out.get 2 rfl) rfl (au _ _) Tryd.underlying23 rfl (bU HOL.out) ?_)|((with_reducible refine aT 2 ?_);refine lS rfl rfl HQ 1 rfl rfl rfl (ay _ _ HOL.out cK.out) (bE HOL.out) (av _ _) ?_;intro w8 fC))
    (try simp only [Exit.inBlock,Exit.then])
    refine bodyPost_ret (results_cell_row rfl _ _ (w.heap.size+1) 23 _ (0,0) _ rfl (fC.out.get 1 rfl) Tryd.underlying23 rfl (bE HOL.out)) rfl ?_
    exact ⟨by rw [HOE.out],fC.out.below⟩
end Go.Proofs.YthdgbgleklkaiaaDoor.Rd
