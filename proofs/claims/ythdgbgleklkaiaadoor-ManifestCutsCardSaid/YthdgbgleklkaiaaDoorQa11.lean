/- The document's carry, in, add, sub, one: The document's in, one, add, sub. Condition: as each theorem says. -/

import Derived.Test.YthdgbgleklkaiaaDoorQa02
import Derived.Test.YthdgbgleklkaiaaDoorQa06
set_option linter.unusedSimpArgs false
set_option linter.unusedVariables false
set_option maxRecDepth 100000
set_option maxHeartbeats 16000000
namespace Go.Proofs.YthdgbgleklkaiaaDoor.Rd
open Go.RowKit Lm Fp
theorem gF (w:World):(zeroValue 98).run Tryd.prog w = .ok (.agg (arr .i64 (List.replicate 16 0))) w:=by kernel_rfl
theorem Od:(Tryd.prog.info? 98).map (·.size)=some 16:=by kernel_rfl
theorem cO {xs:List Int} (h:xs.length=16):(Tryd.prog.info? 98).map (·.size)=some (arr .i64 xs).size:=by rw [aF,h];exact Od
theorem bI {xs:List Int} (h:xs.length=16):(Tryd.prog.info? 98).map (·.size)=some xs.length:=by rw [h];exact Od
theorem zero_num (w:World):(zeroValue 23).run Tryd.prog w = .ok (.agg (arr .u8 (List.replicate 32 0))) w:=by kernel_rfl
theorem oL:(Tryd.prog.info? 23).map (·.size)=some 32:=by kernel_rfl
theorem bE {xs:List Int} (h:xs.length=32):(Tryd.prog.info? 23).map (·.size)=some (arr .u8 xs).size:=by rw [aF,h];exact oL
theorem bU {xs:List Int} (h:xs.length=32):(Tryd.prog.info? 23).map (·.size)=some xs.length:=by rw [h];exact oL
theorem iC (xs:List Int) (w:World) (hl:xs.length=16) (hb:∀ x∈xs, -1152921504606846976≤x∧x≤1152921504606846976) :
  Calls Tryd.prog 88 #[.agg (arr .i64 xs)] w fun e w'=>e = .returned (.agg (arr .i64 (carry xs)))∧Below w.heap.size w w':=by
 obtain ⟨zs,hzs⟩:∃ zs:List Int,zs=List.replicate 16 0:=⟨_,rfl⟩
 have hz:∀ w,(zeroValue 98).run Tryd.prog w = .ok (.agg (arr .i64 zs)) w:=by intro w;rw [hzs];exact gF w
 have hzl:zs.length=16:=by rw [hzs];rfl
 have hgb:=bT xs 1152921504606846976 hb (by decide)
 have hcb:=zV xs 1152921504606846976 17593000000000 hgb (by decide) (by decide)
 have S0:=bM.two w (arr .i64 xs) (arr .i64 zs) 98 98
 have bN:=Lib.hid S0
 have HZ:=Lib.hid hz
 have uD:=Lib.hid hzl
 have HL:=Lib.hid hl
 have HGB:=Lib.hid hgb
 have HCB:=Lib.hid hcb
 clear S0 hz hzl hzs hl hb hgb hcb
 go_enter Tryd.func88, Tryd.ntmps88
 go_wp2_with (first|((with_reducible refine aS 2 ?_);refine aj rfl 98 rfl _ (HZ.out _) ?_))
 go_loopw [3] (fun v wr=>∃ i:Nat,i≤16∧v = .int .i64 i∧∃ cs:List Int,cs=(if i < 16 then mid xs i else carry xs)∧bM w wr [(w.heap.size,arr .i64 cs, 98),(w.heap.size+1,arr .i64 zs, 98)]) (fun v _=>16 - (intOf v).toNat)
 case atStart=>exact ⟨0,Nat.zero_le _,rfl,_,by rw [if_pos (by decide),mid_zero xs HL.out],bN.out⟩
 clear bN
 case round =>
 obtain ⟨i,hi,rfl,cs,hcs,hB⟩:=hrel
 by_cases hlt:i < 16
 ·rw [if_pos hlt] at hcs
  have cl:cs.length=16:=by rw [hcs];exact dP _ _
  have q0:=aN (hB.get 0 rfl) i (by rw [cl];exact hlt)
  have q3:=aC (hB.get 0 rfl) i
  have e0:=xP xs i hlt
  rw [hcs,e0] at q0
  have c0:=HCB.out i
  have g0:=HGB.out i
  by_cases h15:i < 15
  ·have q1:=aN (hB.get 0 rfl) (i+1) (by rw [cl];omega)
   have q4:=aC (hB.get 0 rfl) (i+1)
   have e1:=Vf xs i (i+1) (by omega) (by omega)
   rw [hcs,e1] at q1
   have st:=fun x hx=>mid_step xs i x h15 hx
   have g1:=HGB.out (i+1)
   generalize hx:xs.getD i 0+cr xs i=x at q0 st
   have st:=st x rfl
   generalize xs.getD (i+1) 0=y at q1 st g1
   have hx2 : -1152939097606846976≤x∧x≤1152939097606846976:=by omega
   have n1:x - x / 65536 * 65536=x % 65536:=by omega
   have hb1:=(hB.cell 0 rfl i (.int .i64 (x - x / 65536 * 65536))).cell 0 rfl (i+1) (.int .i64 (y+x / 65536))
   have e2:(((arr .i64 cs).setIfInBounds i (.int .i64 (x - x / 65536 * 65536))).setIfInBounds (i+1) (.int .i64 (y+x / 65536)))=arr .i64 (mid xs (i+1)):=by rw [n1,aY,aY,hcs,st]
   have HB:=Lib.hid (hb1.cast (l':=[(w.heap.size,arr .i64 (mid xs (i+1)), 98),(w.heap.size+1,arr .i64 zs, 98)]) (by rw [← e2];rfl))
   clear n1 hb1 e2 hcs hB st e0 e1 hx c0 g0
   go_wp2_with fail
   go_roundw
   case rel=>exact ⟨i+1,by omega,by go_num,_,by rw [if_pos (by omega)],HB.out⟩
   case measure=>simp [intOf];omega
  ·obtain rfl:i=15:=by omega
   have q1:=aN (hB.get 0 rfl) 0 (by rw [cl];omega)
   have q4:=aC (hB.get 0 rfl) 0
   have st:=fun x hx=>mid_end xs x hx
   generalize hx:xs.getD 15 0+cr xs 15=x at q0 st
   have st:=st x rfl
   have ef:cs.getD 0 0=(xs.getD 0 0+cr xs 0) % 65536:=by rw [hcs,mid,jd _ _ _ (by decide),if_pos (by decide)]
   rw [ef] at q1
   generalize hy:(xs.getD 0 0+cr xs 0) % 65536=y at q1 st
   have hy2:0≤y∧y≤65535:=by omega
   have hx2 : -1152939097606846976≤x∧x≤1152939097606846976:=by omega
   have n1:x - x / 65536 * 65536=x % 65536:=by omega
   have hb1:=(hB.cell 0 rfl 15 (.int .i64 (x - x / 65536 * 65536))).cell 0 rfl 0 (.int .i64 (y+38 * (x / 65536)))
   have e2:(((arr .i64 cs).setIfInBounds 15 (.int .i64 (x - x / 65536 * 65536))).setIfInBounds 0 (.int .i64 (y+38 * (x / 65536))))=arr .i64 (carry xs):=by rw [n1,aY,aY,hcs,st]
   have HB:=Lib.hid (hb1.cast (l':=[(w.heap.size,arr .i64 (carry xs), 98),(w.heap.size+1,arr .i64 zs, 98)]) (by rw [← e2];rfl))
   clear n1 hb1 e2 hcs hB st e0 ef hx c0 g0 hy
   go_wp2_with fail
   go_roundw
   case rel=>exact ⟨16,by omega,by go_num,_,by rw [if_neg (by omega)],HB.out⟩
   case measure=>simp [intOf]
 ·obtain rfl:i=16:=by omega
  rw [if_neg (by decide)] at hcs
  subst hcs
  have cl:=gP xs
  obtain ⟨rs,hrs⟩:∃ rs,rs=carry xs:=⟨_,rfl⟩
  rw [← hrs] at hB cl ⊢
  have HB:=Lib.hid hB
  have HOL:=Lib.hid cl
  have EW:=Lib.hid hrs
  clear hB cl hrs
  go_wp2_with (first|((with_reducible refine aS 38 ?_);refine ak rfl 98 _ rfl w.heap.size 0 _ 98 (0,0) _ (HB.out.get 0 rfl) rfl .i64 rs (au _ _) Tryd.underlying98 rfl (bI HOL.out) ?_)|((with_reducible show wpList _ _ _ (Oper.mk none _ _ _ _ _ :: _) _ _);refine ah rfl 98 _ _ rfl (w.heap.size+1) _ _ 98 (HB.out.get 1 rfl) rfl rfl (ay _ _ HOL.out uD.out) (cO HOL.out) (av _ _) ?_;intro w7 dV iA kZ;have eX:=Lib.hid (HB.out.put 1 rfl iA dV);clear dV iA kZ))
  (try simp only [Exit.inBlock,Exit.then])
  refine bodyPost_ret (results_cell_row rfl _ _ (w.heap.size+1) 98 _ (0,0) _ rfl (eX.out.get 1 rfl) Tryd.underlying98 rfl (cO HOL.out)) rfl ?_
  exact ⟨by rw [EW.out],eX.out.below⟩
end Go.Proofs.YthdgbgleklkaiaaDoor.Rd
namespace Go.Proofs.YthdgbgleklkaiaaDoor.Rd
open Go.RowKit Lm Fp
theorem byte_at {xs:List Int} (h:∀ x∈xs,0≤x∧x≤255) (i:Nat):0≤xs.getD i 0∧xs.getD i 0≤255:=by
 simp only [List.getD]
 cases e:xs[i]? with
 | none=>simp
 | some y=>simpa using h y (List.mem_of_getElem? e)
theorem or_pair (x y:Int) (hx:0≤x∧x≤255) (hy:0≤y∧y≤255):bits .or .i64 x (y * 256)=x+256 * y:=by
 obtain ⟨a,rfl⟩:=Int.eq_ofNat_of_zero_le hx.1
 obtain ⟨b,rfl⟩:=Int.eq_ofNat_of_zero_le hy.1
 have h1:(BitVec.ofInt 64 (a:Int)).toNat=a:=by rw [BitVec.ofInt_natCast,BitVec.toNat_ofNat];exact Nat.mod_eq_of_lt (by omega)
 have h2:(BitVec.ofInt 64 ((b:Int) * 256)).toNat=b * 256:=by
  rw [show (b:Int) * 256=((b * 256:Nat):Int) by omega,BitVec.ofInt_natCast,BitVec.toNat_ofNat];exact Nat.mod_eq_of_lt (by omega)
 show IntKind.i64.wrap ((BitVec.ofInt 64 (a:Int) ||| BitVec.ofInt 64 ((b:Int) * 256)).toNat:Int)=_
 have h3:a ||| b * 256=b * 256+a:=by
  rw [Nat.or_comm,Nat.mul_comm,show (256:Nat)=2 ^ 8 by rfl,← Nat.two_pow_add_eq_or_of_lt (by omega)]
 rw [BitVec.toNat_or,h1,h2,h3,IntKind.wrap_i64]
 omega
theorem in_code (ns:List Int) (w:World) (hl:ns.length=32) (hb:∀ x∈ns,0≤x∧x≤255) :
  Calls Tryd.prog 76 #[.agg (arr .u8 ns)] w fun e w'=>e = .returned (.agg (arr .i64 (ins ns 16)))∧Below w.heap.size w w':=by
 obtain ⟨ze,iH⟩:∃ zs:List Int,zs=List.replicate 16 0:=⟨_,rfl⟩
 have dM:Hid (∀ w,(zeroValue 98).run Tryd.prog w = .ok (.agg (arr .i64 ze)) w):=Lib.hid (by intro w;rw [iH];exact gF w)
 have dB:Hid (ze.length=16):=Lib.hid (by rw [iH];rfl)
 have hz0:ze=ins ns 0:=by rw [iH];exact Vr ns
 have bN:=Lib.hid (bM.three w (arr .u8 ns) (arr .i64 ze) (arr .i64 ze) 23 98 98)
 have HL:=Lib.hid hl
 have HB:=Lib.hid hb
 have HZ0:=Lib.hid hz0
 clear iH hl hb hz0
 go_enter Tryd.func76, Tryd.ntmps76
 go_wp2_with (first|((with_reducible refine aS 2 ?_);refine aj rfl 98 rfl _ (dM.out _) ?_)|((with_reducible refine aS 3 ?_);refine aj rfl 98 rfl _ (dM.out _) ?_))
 go_loopw [4] (fun v wr=>∃ i:Nat,i≤16∧v = .int .i64 i∧∃ cs:List Int,cs=ins ns i∧bM w wr [(w.heap.size,arr .u8 ns, 23),(w.heap.size+1,arr .i64 ze, 98),(w.heap.size+1+1,arr .i64 cs, 98)]) (fun v _=>16 - (intOf v).toNat)
 case atStart=>exact ⟨0,Nat.zero_le _,rfl,_,HZ0.out,bN.out⟩
 clear bN HZ0
 case round =>
 obtain ⟨i,hi,rfl,cs,hcs,hB⟩:=hrel
 have cl:cs.length=16:=by rw [hcs];exact dP _ _
 by_cases hlt:i < 16
 ·have q0:=aN (hB.get 0 rfl) (2 * i) (by rw [HL.out];omega)
  have q1:=aN (hB.get 0 rfl) (2 * i+1) (by rw [HL.out];omega)
  have q3:=aC (hB.get 2 rfl) i
  have q4:=aN (hB.get 2 rfl) i (by rw [cl];exact hlt)
  have b0:=byte_at HB.out (2 * i)
  have b1:=byte_at HB.out (2 * i+1)
  have st:=Vs ns i
  generalize ns.getD (2 * i) 0=x at q0 b0 st
  generalize ns.getD (2 * i+1) 0=y at q1 b1 st
  have ho:=or_pair x y b0 b1
  have hb1:=hB.cell 2 rfl i (.int .i64 (bits .or .i64 x (y * 256)))
  have e2:(arr .i64 cs).setIfInBounds i (.int .i64 (bits .or .i64 x (y * 256)))=arr .i64 (ins ns (i+1)):=by rw [ho,aY,hcs,st]
  have HB1:=Lib.hid (hb1.cast (l':=[(w.heap.size,arr .u8 ns, 23),(w.heap.size+1,arr .i64 ze, 98),(w.heap.size+1+1,arr .i64 (ins ns (i+1)), 98)]) (by rw [← e2];rfl))
  have n1:(2 * (i:Int)).toNat=2 * i:=by omega
  have n2:(2 * (i:Int)+1).toNat=2 * i+1:=by omega
  clear hb1 e2 hcs hB st ho cl
  go_wp2_with fail
  go_region
  go_wp2_with fail
  go_roundw
  case rel=>exact ⟨i+1,by omega,by go_num,_,rfl,HB1.out.drew⟩
  case measure=>simp [intOf];omega
 ·obtain rfl:i=16:=by omega
  have HB2:=Lib.hid hB
  have HOL:=Lib.hid cl
  have EW:=Lib.hid hcs
  clear hB cl hcs
  go_wp2_with (first|((with_reducible refine aS 24 ?_);refine ak rfl 98 _ rfl (w.heap.size+1+1) 0 _ 98 (0,0) _ (HB2.out.get 2 rfl) rfl .i64 cs (au _ _) Tryd.underlying98 rfl (bI HOL.out) ?_)|((with_reducible refine aT 2 ?_);refine ah rfl 98 _ _ rfl (w.heap.size+1) _ _ 98 (HB2.out.get 1 rfl) rfl rfl (ay _ _ HOL.out dB.out) (cO HOL.out) (av _ _) ?_;intro w7 dV iA kZ;have eX:=Lib.hid (HB2.out.put 1 rfl iA dV);clear dV iA kZ))
  (try simp only [Exit.inBlock,Exit.then])
  refine bodyPost_ret (results_cell_row rfl _ _ (w.heap.size+1) 98 _ (0,0) _ rfl (eX.out.get 1 rfl) Tryd.underlying98 rfl (cO HOL.out)) rfl ?_
  exact ⟨by rw [EW.out],eX.out.below⟩
theorem in_any (ns:List Nat) (w:World) (hl:ns.length=32) (hb:∀ n∈ns,n < 256) :
  Calls Tryd.prog 76 #[.agg (arr .u8 (aW ns))] w fun e w'=>∃ zs,e = .returned (.agg (arr .i64 zs))∧El zs (val 256 ns % p)∧Below w.heap.size w w' :=
 (in_code (aW ns) w (by rw [aH,hl]) (by
  intro x hx
  obtain ⟨n,hn,rfl⟩:=List.mem_map.1 hx
  have:=hb n hn
  show 0≤(n:Int)∧(n:Int)≤255
  omega)).mono fun _ _ h=>⟨_,h.1,ins_el ns hl hb,h.2⟩
theorem fO (n:Nat) (w:World) (hn:n≤1048576) :
  Calls Tryd.prog 71 #[.int .i64 n] w fun e w'=>∃ zs,e = .returned (.agg (arr .i64 zs))∧El zs n∧Below w.heap.size w w':=by
 obtain ⟨ze,iH⟩:∃ zs:List Int,zs=List.replicate 16 0:=⟨_,rfl⟩
 have dM:Hid (∀ w,(zeroValue 98).run Tryd.prog w = .ok (.agg (arr .i64 ze)) w):=Lib.hid (by intro w;rw [iH];exact gF w)
 have dB:Hid (ze.length=16):=Lib.hid (by rw [iH];rfl)
 have hE:=Ie n hn
 rw [← iH] at hE
 have bN:=Lib.hid ((bM.two w (arr .i64 ze) ((arr .i64 ze).setIfInBounds 0 (.int .i64 (n:Int))) 98 98).cast (l':=[(w.heap.size,arr .i64 ze, 98),(w.heap.size+1,arr .i64 (ze.set 0 (n:Int)), 98)]) (by rw [← aY]))
 have gY:=Lib.hid (bM.two w (arr .i64 ze) (arr .i64 ze) 98 98)
 have HE:=Lib.hid hE
 have q0:=aN (gY.out.get 1 rfl) 0 (by rw [dB.out];decide)
 have q1:=aC (gY.out.get 1 rfl) 0
 obtain ⟨cs,hcs⟩:∃ cs,cs=ze.set 0 (n:Int):=⟨_,rfl⟩
 have HOL:Hid (cs.length=16):=Lib.hid (by rw [hcs,List.length_set];exact dB.out)
 rw [← hcs] at bN HE
 clear iH hE hcs gY
 go_enter Tryd.func71, Tryd.ntmps71
 go_wp2_with (first|((with_reducible refine aS 2 ?_);refine aj rfl 98 rfl _ (dM.out _) ?_)|((with_reducible refine aS 3 ?_);refine aj rfl 98 rfl _ (dM.out _) ?_)|((with_reducible refine aS 6 ?_);refine ak rfl 98 _ rfl (w.heap.size+1) 0 _ 98 (0,0) _ (bN.out.get 1 rfl) rfl .i64 cs (au _ _) Tryd.underlying98 rfl (bI HOL.out) ?_)|((with_reducible refine aT 2 ?_);refine ah rfl 98 _ _ rfl (w.heap.size) _ _ 98 (bN.out.get 0 rfl) rfl rfl (ay _ _ HOL.out dB.out) (cO HOL.out) (av _ _) ?_;intro w7 dV iA kZ;have eX:=Lib.hid (bN.out.put 0 rfl iA dV);clear dV iA kZ))
 (try simp only [Exit.inBlock,Exit.then])
 refine bodyPost_ret (results_cell_row rfl _ _ (w.heap.size) 98 _ (0,0) _ rfl (eX.out.get 0 rfl) Tryd.underlying98 rfl (cO HOL.out)) rfl ?_
 exact ⟨_,rfl,HE.out,eX.out.below⟩
def jF (xs ys:List Int) (i:Nat):List Int:=tb 16 fun j=>if j < i then xs.getD j 0+ys.getD j 0 else xs.getD j 0
theorem Ec (xs ys:List Int) (h:xs.length=16):jF xs ys 0=xs:=by
 refine Eq.trans (bX _ _ _ fun i _=>?_) (BS 16 xs h).symm
 rw [if_neg (by omega)]
theorem GN (xs ys:List Int):jF xs ys 16=DF xs ys:=bX _ _ _ fun i hi=>by rw [if_pos hi]
theorem GL (xs ys:List Int) (i:Nat) (h:i < 16):(jF xs ys i).getD i 0=xs.getD i 0:=by rw [jF,jd _ _ _ h,if_neg (by omega)]
theorem Ee (xs ys:List Int) (i:Nat):(jF xs ys i).set i (xs.getD i 0+ys.getD i 0)=jF xs ys (i+1):=by
 rw [jF,iI]
 refine bX _ _ _ fun j _=>?_
 by_cases e:j=i
 ·subst e;rw [if_pos rfl,if_pos (by omega)]
 ·rw [if_neg e]
  by_cases e3:j < i
  ·rw [if_pos e3,if_pos (by omega)]
  ·rw [if_neg e3,if_neg (by omega)]
theorem iR (xs ys:List Int) (a b:Nat) (w:World) (hx:El xs a) (hy:El ys b) :
  Calls Tryd.prog 77 #[.agg (arr .i64 xs), .agg (arr .i64 ys)] w fun e w'=>∃ zs,e = .returned (.agg (arr .i64 zs))∧El zs (aJ a b)∧Below w.heap.size w w':=by
 obtain ⟨ze,iH⟩:∃ zs:List Int,zs=List.replicate 16 0:=⟨_,rfl⟩
 have dM:Hid (∀ w,(zeroValue 98).run Tryd.prog w = .ok (.agg (arr .i64 ze)) w):=Lib.hid (by intro w;rw [iH];exact gF w)
 have dB:Hid (ze.length=16):=Lib.hid (by rw [iH];rfl)
 have bN:=Lib.hid (bM.three w (arr .i64 xs) (arr .i64 ys) (arr .i64 ze) 98 98 98)
 have HX:=Lib.hid hx
 have HY:=Lib.hid hy
 have HE:=Lib.hid (El.add hx hy)
 have HC:=Lib.hid (fun w=>iC (DF xs ys) w (dP _ _) (yB _ _ _ fun i _=>by
  have h1:=bT xs 1048576 hx.2.1 (by decide) i
  have h2:=bT ys 1048576 hy.2.1 (by decide) i
  omega))
 obtain ⟨rs,hrs⟩:∃ rs,rs=carry (DF xs ys):=⟨_,rfl⟩
 rw [← hrs] at HE HC
 have iK:Hid (rs.length=16):=Lib.hid (by rw [hrs];exact gP _)
 obtain ⟨ss,hss⟩:∃ ss,ss=DF xs ys:=⟨_,rfl⟩
 have HSL:Hid (ss.length=16):=Lib.hid (by rw [hss];exact dP _ _)
 rw [← hss] at HC
 have HSS:=Lib.hid hss
 clear iH hx hy hrs hss
 go_enter Tryd.func77, Tryd.ntmps77
 go_wp2_with (first|((with_reducible refine aS 4 ?_);refine aj rfl 98 rfl _ (dM.out _) ?_))
 go_loopw [5] (fun v wr=>∃ i:Nat,i≤16∧v = .int .i64 i∧∃ cs:List Int,cs=jF xs ys i∧bM w wr [(w.heap.size,arr .i64 cs, 98),(w.heap.size+1,arr .i64 ys, 98),(w.heap.size+1+1,arr .i64 ze, 98)]) (fun v _=>16 - (intOf v).toNat)
 case atStart=>exact ⟨0,Nat.zero_le _,rfl,_,(Ec xs ys HX.out.1).symm,bN.out⟩
 clear bN
 case round =>
 obtain ⟨i,hi,rfl,cs,hcs,hB⟩:=hrel
 have cl:cs.length=16:=by rw [hcs];exact dP _ _
 by_cases hlt:i < 16
 ·have q0:=aN (hB.get 0 rfl) i (by rw [cl];exact hlt)
  have q1:=aN (hB.get 1 rfl) i (by rw [HY.out.1];exact hlt)
  have q3:=aC (hB.get 0 rfl) i
  rw [hcs,GL xs ys i hlt] at q0
  have b0:=bT xs 1048576 HX.out.2.1 (by decide) i
  have b1:=bT ys 1048576 HY.out.2.1 (by decide) i
  have st:=Ee xs ys i
  generalize xs.getD i 0=x at q0 b0 st
  generalize ys.getD i 0=y at q1 b1 st
  have hb1:=hB.cell 0 rfl i (.int .i64 (x+y))
  have e2:(arr .i64 cs).setIfInBounds i (.int .i64 (x+y))=arr .i64 (jF xs ys (i+1)):=by rw [aY,hcs,st]
  have HB1:=Lib.hid (hb1.cast (l':=[(w.heap.size,arr .i64 (jF xs ys (i+1)), 98),(w.heap.size+1,arr .i64 ys, 98),(w.heap.size+1+1,arr .i64 ze, 98)]) (by rw [← e2];rfl))
  clear hb1 e2 hcs hB st cl
  go_wp2_with fail
  go_region
  go_wp2_with fail
  go_roundw
  case rel=>exact ⟨i+1,by omega,by go_num,_,rfl,HB1.out.drew⟩
  case measure=>simp [intOf];omega
 ·obtain rfl:i=16:=by omega
  rw [GN,← HSS.out] at hcs
  subst hcs
  have HB2:=Lib.hid hB
  clear hB cl
  go_wp2_with (first|((with_reducible refine aS 19 ?_);refine ak rfl 98 _ rfl (w.heap.size) 0 _ 98 (0,0) _ (HB2.out.get 0 rfl) rfl .i64 cs (au _ _) Tryd.underlying98 rfl (bI HSL.out) ?_)|((with_reducible show Calls _ _ #[.agg _] _ _);go_at_call 88; refine (HC.out _).mono ?_;rintro e w6 ⟨rfl,hb6⟩;have kQ:=Lib.hid (HB2.out.kept hb6);clear hb6)|((with_reducible refine aT 4 ?_);refine ah rfl 98 _ _ rfl (w.heap.size+1+1) _ _ 98 (kQ.out.get 2 rfl) rfl rfl (ay _ _ iK.out dB.out) (cO iK.out) (av _ _) ?_;intro w7 dV iA kZ;have eX:=Lib.hid (kQ.out.put 2 rfl iA dV);clear dV iA kZ))
  (try simp only [Exit.inBlock,Exit.then])
  refine bodyPost_ret (results_cell_row rfl _ _ (w.heap.size+1+1) 98 _ (0,0) _ rfl (eX.out.get 2 rfl) Tryd.underlying98 rfl (cO iK.out)) rfl ?_
  exact ⟨_,rfl,HE.out,eX.out.below⟩
def jE (xs ys:List Int) (i:Nat):List Int:=tb 16 fun j=>if j < i then xs.getD j 0 - ys.getD j 0 else xs.getD j 0
theorem Ea (xs ys:List Int) (h:xs.length=16):jE xs ys 0=xs:=by
 refine Eq.trans (bX _ _ _ fun i _=>?_) (BS 16 xs h).symm
 rw [if_neg (by omega)]
theorem GK (xs ys:List Int):jE xs ys 16=zU xs ys:=bX _ _ _ fun i hi=>by rw [if_pos hi]
theorem GJ (xs ys:List Int) (i:Nat) (h:i < 16):(jE xs ys i).getD i 0=xs.getD i 0:=by rw [jE,jd _ _ _ h,if_neg (by omega)]
theorem Eb (xs ys:List Int) (i:Nat):(jE xs ys i).set i (xs.getD i 0 - ys.getD i 0)=jE xs ys (i+1):=by
 rw [jE,iI]
 refine bX _ _ _ fun j _=>?_
 by_cases e:j=i
 ·subst e;rw [if_pos rfl,if_pos (by omega)]
 ·rw [if_neg e]
  by_cases e3:j < i
  ·rw [if_pos e3,if_pos (by omega)]
  ·rw [if_neg e3,if_neg (by omega)]
theorem je (xs ys:List Int) (a b:Nat) (w:World) (hx:El xs a) (hy:El ys b) :
  Calls Tryd.prog 78 #[.agg (arr .i64 xs), .agg (arr .i64 ys)] w fun e w'=>∃ zs,e = .returned (.agg (arr .i64 zs))∧El zs (aX a b)∧Below w.heap.size w w':=by
 obtain ⟨ze,iH⟩:∃ zs:List Int,zs=List.replicate 16 0:=⟨_,rfl⟩
 have dM:Hid (∀ w,(zeroValue 98).run Tryd.prog w = .ok (.agg (arr .i64 ze)) w):=Lib.hid (by intro w;rw [iH];exact gF w)
 have dB:Hid (ze.length=16):=Lib.hid (by rw [iH];rfl)
 have bN:=Lib.hid (bM.three w (arr .i64 xs) (arr .i64 ys) (arr .i64 ze) 98 98 98)
 have HX:=Lib.hid hx
 have HY:=Lib.hid hy
 have HE:=Lib.hid (El.sub hx hy)
 have HC:=Lib.hid (fun w=>iC (zU xs ys) w (dP _ _) (yB _ _ _ fun i _=>by
  have h1:=bT xs 1048576 hx.2.1 (by decide) i
  have h2:=bT ys 1048576 hy.2.1 (by decide) i
  omega))
 obtain ⟨rs,hrs⟩:∃ rs,rs=carry (zU xs ys):=⟨_,rfl⟩
 rw [← hrs] at HE HC
 have iK:Hid (rs.length=16):=Lib.hid (by rw [hrs];exact gP _)
 obtain ⟨ss,hss⟩:∃ ss,ss=zU xs ys:=⟨_,rfl⟩
 have HSL:Hid (ss.length=16):=Lib.hid (by rw [hss];exact dP _ _)
 rw [← hss] at HC
 have HSS:=Lib.hid hss
 clear iH hx hy hrs hss
 go_enter Tryd.func78, Tryd.ntmps78
 go_wp2_with (first|((with_reducible refine aS 4 ?_);refine aj rfl 98 rfl _ (dM.out _) ?_))
 go_loopw [5] (fun v wr=>∃ i:Nat,i≤16∧v = .int .i64 i∧∃ cs:List Int,cs=jE xs ys i∧bM w wr [(w.heap.size,arr .i64 cs, 98),(w.heap.size+1,arr .i64 ys, 98),(w.heap.size+1+1,arr .i64 ze, 98)]) (fun v _=>16 - (intOf v).toNat)
 case atStart=>exact ⟨0,Nat.zero_le _,rfl,_,(Ea xs ys HX.out.1).symm,bN.out⟩
 clear bN
 case round =>
 obtain ⟨i,hi,rfl,cs,hcs,hB⟩:=hrel
 have cl:cs.length=16:=by rw [hcs];exact dP _ _
 by_cases hlt:i < 16
 ·have q0:=aN (hB.get 0 rfl) i (by rw [cl];exact hlt)
  have q1:=aN (hB.get 1 rfl) i (by rw [HY.out.1];exact hlt)
  have q3:=aC (hB.get 0 rfl) i
  rw [hcs,GJ xs ys i hlt] at q0
  have b0:=bT xs 1048576 HX.out.2.1 (by decide) i
  have b1:=bT ys 1048576 HY.out.2.1 (by decide) i
  have st:=Eb xs ys i
  generalize xs.getD i 0=x at q0 b0 st
  generalize ys.getD i 0=y at q1 b1 st
  have hb1:=hB.cell 0 rfl i (.int .i64 (x - y))
  have e2:(arr .i64 cs).setIfInBounds i (.int .i64 (x - y))=arr .i64 (jE xs ys (i+1)):=by rw [aY,hcs,st]
  have HB1:=Lib.hid (hb1.cast (l':=[(w.heap.size,arr .i64 (jE xs ys (i+1)), 98),(w.heap.size+1,arr .i64 ys, 98),(w.heap.size+1+1,arr .i64 ze, 98)]) (by rw [← e2];rfl))
  clear hb1 e2 hcs hB st cl
  go_wp2_with fail
  go_region
  go_wp2_with fail
  go_roundw
  case rel=>exact ⟨i+1,by omega,by go_num,_,rfl,HB1.out.drew⟩
  case measure=>simp [intOf];omega
 ·obtain rfl:i=16:=by omega
  rw [GK,← HSS.out] at hcs
  subst hcs
  have HB2:=Lib.hid hB
  clear hB cl
  go_wp2_with (first|((with_reducible refine aS 19 ?_);refine ak rfl 98 _ rfl (w.heap.size) 0 _ 98 (0,0) _ (HB2.out.get 0 rfl) rfl .i64 cs (au _ _) Tryd.underlying98 rfl (bI HSL.out) ?_)|((with_reducible show Calls _ _ #[.agg _] _ _);go_at_call 88; refine (HC.out _).mono ?_;rintro e w6 ⟨rfl,hb6⟩;have kQ:=Lib.hid (HB2.out.kept hb6);clear hb6)|((with_reducible refine aT 4 ?_);refine ah rfl 98 _ _ rfl (w.heap.size+1+1) _ _ 98 (kQ.out.get 2 rfl) rfl rfl (ay _ _ iK.out dB.out) (cO iK.out) (av _ _) ?_;intro w7 dV iA kZ;have eX:=Lib.hid (kQ.out.put 2 rfl iA dV);clear dV iA kZ))
  (try simp only [Exit.inBlock,Exit.then])
  refine bodyPost_ret (results_cell_row rfl _ _ (w.heap.size+1+1) 98 _ (0,0) _ rfl (eX.out.get 2 rfl) Tryd.underlying98 rfl (cO iK.out)) rfl ?_
  exact ⟨_,rfl,HE.out,eX.out.below⟩
end Go.Proofs.YthdgbgleklkaiaaDoor.Rd
