/- The document's carry, in, add, sub, one: The document's in, one, add,. Condition: as each theorem says. -/

import Derived.Test.YthdgbgleklkaiaaGreatDoorQc03
import Derived.Test.YthdgbgleklkaiaaGreatDoorQc04
open Go.Lib renaming hid→abC
open BitVec renaming ofInt→abD,ofInt_natCast→abI,toNat_ofNat→abJ,toNat_and→abM
open Nat renaming zero_le→abE,mod_eq_of_lt→abK,and_two_pow_sub_one_eq_mod→abN
open List renaming replicate→abF,length_set→abL
open Int renaming eq_ofNat_of_zero_le→abH
set_option linter.unusedSimpArgs false
set_option linter.unusedVariables false
set_option maxRecDepth 100000
set_option maxHeartbeats 16000000
namespace Go.Proofs.YthdgbgleklkaiaaGreatDoor.Rd
open Go.RowKit Lm Fp
theorem gM (w:World):(zeroValue 125).run Tryz.prog w = .ok (.agg (arr .i64 (abF 16 0))) w:=by kernel_rfl
theorem Pz:(Tryz.prog.info? 125).map (·.size)=some 16:=by kernel_rfl
theorem dx {xs:List Int} (h:xs.length=16):(Tryz.prog.info? 125).map (·.size)=some (arr .i64 xs).size:=by rw [aD,h];exact Pz
theorem bK {xs:List Int} (h:xs.length=16):(Tryz.prog.info? 125).map (·.size)=some xs.length:=by rw [h];exact Pz
theorem zero_num (w:World):(zeroValue 25).run Tryz.prog w = .ok (.agg (arr .u8 (abF 32 0))) w:=by kernel_rfl
theorem oZ:(Tryz.prog.info? 25).map (·.size)=some 32:=by kernel_rfl
theorem bG {xs:List Int} (h:xs.length=32):(Tryz.prog.info? 25).map (·.size)=some (arr .u8 xs).size:=by rw [aD,h];exact oZ
theorem bU {xs:List Int} (h:xs.length=32):(Tryz.prog.info? 25).map (·.size)=some xs.length:=by rw [h];exact oZ
theorem iJ (xs:List Int) (w:World) (hl:xs.length=16) (hb:∀ x∈xs, -1152921504606846976≤x∧x≤1152921504606846976) :
  Calls Tryz.prog 179 #[.agg (arr .i64 xs)] w fun e w'=>e = .returned (.agg (arr .i64 (carry xs)))∧Below w.heap.size w w':=by
 obtain ⟨zs,hzs⟩:∃ zs:List Int,zs=abF 16 0:=⟨_,rfl⟩
 have hz:∀ w,(zeroValue 125).run Tryz.prog w = .ok (.agg (arr .i64 zs)) w:=by intro w;rw [hzs];exact gM w
 have hzl:zs.length=16:=by rw [hzs];rfl
 have hgb:=bV xs 1152921504606846976 hb (by decide)
 have hcb:=Bc xs 1152921504606846976 17593000000000 hgb (by decide) (by decide)
 have S0:=bO.two w (arr .i64 xs) (arr .i64 zs) 125 125
 have bW:=abC S0
 have HZ:=abC hz
 have uz:=abC hzl
 have HL:=abC hl
 have HGB:=abC hgb
 have HCB:=abC hcb
 clear S0 hz hzl hzs hl hb hgb hcb
 go_enter Tryz.func179, Tryz.ntmps179
 go_wp2_with (first|((with_reducible refine aS 2 ?_);refine ah rfl 125 rfl _ (HZ.out _) ?_))
 go_loopw [3] (fun v wr=>∃ i:Nat,i≤16∧v = .int .i64 i∧∃ cs:List Int,cs=(if i < 16 then mid xs i else carry xs)∧bO w wr [(w.heap.size,arr .i64 cs, 125),(w.heap.size+1,arr .i64 zs, 125)]) (fun v _=>16 - (intOf v).toNat)
 case atStart=>exact ⟨0,abE _,rfl,_,by rw [if_pos (by decide),mid_zero xs HL.out],bW.out⟩
 clear bW
 case round =>
 obtain ⟨i,hi,rfl,cs,hcs,hB⟩:=hrel
 by_cases hlt:i < 16
 ·rw [if_pos hlt] at hcs
  have cl:cs.length=16:=by rw [hcs];exact dX _ _
  have q0:=aP (hB.get 0 rfl) i (by rw [cl];exact hlt)
  have q3:=aC (hB.get 0 rfl) i
  have e0:=yA xs i hlt
  rw [hcs,e0] at q0
  have c0:=HCB.out i
  have g0:=HGB.out i
  by_cases h15:i < 15
  ·have q1:=aP (hB.get 0 rfl) (i+1) (by rw [cl];omega)
   have q4:=aC (hB.get 0 rfl) (i+1)
   have e1:=Xj xs i (i+1) (by omega) (by omega)
   rw [hcs,e1] at q1
   have st:=fun x hx=>mid_step xs i x h15 hx
   have g1:=HGB.out (i+1)
   generalize hx:xs.getD i 0+cr xs i=x at q0 st
   have st:=st x rfl
   generalize xs.getD (i+1) 0=y at q1 st g1
   have hx2 : -1152939097606846976≤x∧x≤1152939097606846976:=by omega
   have n1:x - x / 65536 * 65536=x % 65536:=by omega
   have hb1:=(hB.cell 0 rfl i (.int .i64 (x - x / 65536 * 65536))).cell 0 rfl (i+1) (.int .i64 (y+x / 65536))
   have e2:(((arr .i64 cs).setIfInBounds i (.int .i64 (x - x / 65536 * 65536))).setIfInBounds (i+1) (.int .i64 (y+x / 65536)))=arr .i64 (mid xs (i+1)):=by rw [n1,bq,bq,hcs,st]
   have HB:=abC (hb1.cast (l':=[(w.heap.size,arr .i64 (mid xs (i+1)), 125),(w.heap.size+1,arr .i64 zs, 125)]) (by rw [← e2];rfl))
   clear n1 hb1 e2 hcs hB st e0 e1 hx c0 g0
   go_wp2_with fail
   go_roundw
   case rel=>exact ⟨i+1,by omega,by go_num,_,by rw [if_pos (by omega)],HB.out⟩
   case measure=>simp [intOf];omega
  ·obtain rfl:i=15:=by omega
   have q1:=aP (hB.get 0 rfl) 0 (by rw [cl];omega)
   have q4:=aC (hB.get 0 rfl) 0
   have st:=fun x hx=>mid_end xs x hx
   generalize hx:xs.getD 15 0+cr xs 15=x at q0 st
   have st:=st x rfl
   have ef:cs.getD 0 0=(xs.getD 0 0+cr xs 0) % 65536:=by rw [hcs,mid,jl _ _ _ (by decide),if_pos (by decide)]
   rw [ef] at q1
   generalize hy:(xs.getD 0 0+cr xs 0) % 65536=y at q1 st
   have hy2:0≤y∧y≤65535:=by omega
   have hx2 : -1152939097606846976≤x∧x≤1152939097606846976:=by omega
   have n1:x - x / 65536 * 65536=x % 65536:=by omega
   have hb1:=(hB.cell 0 rfl 15 (.int .i64 (x - x / 65536 * 65536))).cell 0 rfl 0 (.int .i64 (y+38 * (x / 65536)))
   have e2:(((arr .i64 cs).setIfInBounds 15 (.int .i64 (x - x / 65536 * 65536))).setIfInBounds 0 (.int .i64 (y+38 * (x / 65536))))=arr .i64 (carry xs):=by rw [n1,bq,bq,hcs,st]
   have HB:=abC (hb1.cast (l':=[(w.heap.size,arr .i64 (carry xs), 125),(w.heap.size+1,arr .i64 zs, 125)]) (by rw [← e2];rfl))
   clear n1 hb1 e2 hcs hB st e0 ef hx c0 g0 hy
   go_wp2_with fail
   go_roundw
   case rel=>exact ⟨16,by omega,by go_num,_,by rw [if_neg (by omega)],HB.out⟩
   case measure=>simp [intOf]
 ·obtain rfl:i=16:=by omega
  rw [if_neg (by decide)] at hcs
  subst hcs
  have cl:=ig xs
  obtain ⟨rs,hrs⟩:∃ rs,rs=carry xs:=⟨_,rfl⟩
  rw [← hrs] at hB cl ⊢
  have HB:=abC hB
  have HOL:=abC cl
  have CV:=abC hrs
  clear hB cl hrs
  go_wp2_with (first|((with_reducible refine aS 38 ?_);refine aB rfl 125 _ rfl w.heap.size 0 _ 125 (0,0) _ (HB.out.get 0 rfl) rfl .i64 rs (aj _ _) Tryz.underlying125 rfl (bK HOL.out) ?_)|((with_reducible show wpList _ _ _ (Oper.mk none _ _ _ _ _ :: _) _ _);refine lS rfl rfl HB 1 rfl rfl rfl (av _ _ HOL.out uz.out) (dx HOL.out) (ak _ _) ?_;intro w7 fC))
  (try simp only [Exit.inBlock,Exit.then])
  refine bodyPost_ret (results_cell_row rfl _ _ (w.heap.size+1) 125 _ (0,0) _ rfl (fC.out.get 1 rfl) Tryz.underlying125 rfl (dx HOL.out)) rfl ?_
  exact ⟨by rw [CV.out],fC.out.below⟩
end Go.Proofs.YthdgbgleklkaiaaGreatDoor.Rd
namespace Go.Proofs.YthdgbgleklkaiaaGreatDoor.Rd
open Go.RowKit Lm Fp
theorem byte_at {xs:List Int} (h:∀ x∈xs,0≤x∧x≤255) (i:Nat):0≤xs.getD i 0∧xs.getD i 0≤255:=by
 simp only [List.getD]
 cases e:xs[i]? with
 | none=>simp
 | some y=>simpa using h y (List.mem_of_getElem? e)
theorem or_pair (x y:Int) (hx:0≤x∧x≤255) (hy:0≤y∧y≤255):bits .or .i64 x (y * 256)=x+256 * y:=by
 obtain ⟨a,rfl⟩:=abH hx.1
 obtain ⟨b,rfl⟩:=abH hy.1
 have h1:(abD 64 (a:Int)).toNat=a:=by rw [abI,abJ];exact abK (by omega)
 have h2:(abD 64 ((b:Int) * 256)).toNat=b * 256:=by
  rw [show (b:Int) * 256=((b * 256:Nat):Int) by omega,abI,abJ];exact abK (by omega)
 show IntKind.i64.wrap ((abD 64 (a:Int) ||| abD 64 ((b:Int) * 256)).toNat:Int)=_
 have h3:a ||| b * 256=b * 256+a:=by
  rw [Nat.or_comm,Nat.mul_comm,show (256:Nat)=2 ^ 8 by rfl,← Nat.two_pow_add_eq_or_of_lt (by omega)]
 rw [BitVec.toNat_or,h1,h2,h3,IntKind.wrap_i64]
 omega
theorem in_code (ns:List Int) (w:World) (hl:ns.length=32) (hb:∀ x∈ns,0≤x∧x≤255) :
  Calls Tryz.prog 141 #[.agg (arr .u8 ns)] w fun e w'=>e = .returned (.agg (arr .i64 (ins ns 16)))∧Below w.heap.size w w':=by
 obtain ⟨ze,iO,dO,dG⟩:=zN gM
 have hz0:ze=ins ns 0:=by rw [iO];exact Xy ns
 have bW:=abC (bO.three w (arr .u8 ns) (arr .i64 ze) (arr .i64 ze) 25 125 125)
 have HL:=abC hl
 have HB:=abC hb
 have HZ0:=abC hz0
 clear iO hl hb hz0
 go_enter Tryz.func141, Tryz.ntmps141
 go_wp2_with (first|((with_reducible refine aS 2 ?_);refine ah rfl 125 rfl _ (dO.out _) ?_)|((with_reducible refine aS 3 ?_);refine ah rfl 125 rfl _ (dO.out _) ?_))
 go_loopw [4] (fun v wr=>∃ i:Nat,i≤16∧v = .int .i64 i∧∃ cs:List Int,cs=ins ns i∧bO w wr [(w.heap.size,arr .u8 ns, 25),(w.heap.size+1,arr .i64 ze, 125),(w.heap.size+1+1,arr .i64 cs, 125)]) (fun v _=>16 - (intOf v).toNat)
 case atStart=>exact ⟨0,abE _,rfl,_,HZ0.out,bW.out⟩
 clear bW HZ0
 case round =>
 obtain ⟨i,hi,rfl,cs,hcs,hB⟩:=hrel
 have cl:cs.length=16:=by rw [hcs];exact dX _ _
 by_cases hlt:i < 16
 ·have q0:=aP (hB.get 0 rfl) (2 * i) (by rw [HL.out];omega)
  have q1:=aP (hB.get 0 rfl) (2 * i+1) (by rw [HL.out];omega)
  have q3:=aC (hB.get 2 rfl) i
  have q4:=aP (hB.get 2 rfl) i (by rw [cl];exact hlt)
  have b0:=byte_at HB.out (2 * i)
  have b1:=byte_at HB.out (2 * i+1)
  have st:=Xz ns i
  generalize ns.getD (2 * i) 0=x at q0 b0 st
  generalize ns.getD (2 * i+1) 0=y at q1 b1 st
  have ho:=or_pair x y b0 b1
  have hb1:=hB.cell 2 rfl i (.int .i64 (bits .or .i64 x (y * 256)))
  have e2:(arr .i64 cs).setIfInBounds i (.int .i64 (bits .or .i64 x (y * 256)))=arr .i64 (ins ns (i+1)):=by rw [ho,bq,hcs,st]
  have HB1:=abC (hb1.cast (l':=[(w.heap.size,arr .u8 ns, 25),(w.heap.size+1,arr .i64 ze, 125),(w.heap.size+1+1,arr .i64 (ins ns (i+1)), 125)]) (by rw [← e2];rfl))
  have n1:(2 * (i:Int)).toNat=2 * i:=by omega
  have n2:(2 * (i:Int)+1).toNat=2 * i+1:=by omega
  clear hb1 e2 hcs hB st ho cl
  go_wp2_with fail
  go_region
  go_wp2_with fail
  go_roundw
  case rel=>exact ⟨i+1,by omega,by go_num,_,rfl,HB1.out.drew⟩
  case measure=>simp [intOf];omega
 ·obtain rfl:i=16:=by omega
  have HB2:=abC hB
  have HOL:=abC cl
  have CV:=abC hcs
  clear hB cl hcs
  go_wp2_with (first|((with_reducible refine aS 24 ?_);refine lL rfl rfl (HB2.out.get 2 rfl) rfl (aj _ _) Tryz.underlying125 rfl (bK HOL.out) ?_)|((with_reducible refine aT 2 ?_);refine lS rfl rfl HB2 1 rfl rfl rfl (av _ _ HOL.out dG.out) (dx HOL.out) (ak _ _) ?_;intro w7 fC))
  (try simp only [Exit.inBlock,Exit.then])
  refine bodyPost_ret (results_cell_row rfl _ _ (w.heap.size+1) 125 _ (0,0) _ rfl (fC.out.get 1 rfl) Tryz.underlying125 rfl (dx HOL.out)) rfl ?_
  exact ⟨by rw [CV.out],fC.out.below⟩
theorem in_any (ns:List Nat) (w:World) (hl:ns.length=32) (hb:∀ n∈ns,n < 256) :
  Calls Tryz.prog 141 #[.agg (arr .u8 (aW ns))] w fun e w'=>∃ zs,e = .returned (.agg (arr .i64 zs))∧El zs (val 256 ns % p)∧Below w.heap.size w w' :=
 (in_code (aW ns) w (by rw [aG,hl]) (by
  intro x hx
  obtain ⟨n,hn,rfl⟩:=List.mem_map.1 hx
  have:=hb n hn
  show 0≤(n:Int)∧(n:Int)≤255
  omega)).mono fun _ _ h=>⟨_,h.1,ins_el ns hl hb,h.2⟩
theorem gq (n:Nat) (w:World) (hn:n≤1048576) :
  Calls Tryz.prog 134 #[.int .i64 n] w fun e w'=>∃ zs,e = .returned (.agg (arr .i64 zs))∧El zs n∧Below w.heap.size w w':=by
 obtain ⟨ze,iO,dO,dG⟩:=zN gM
 have hE:=JC n hn
 rw [← iO] at hE
 have bW:=abC ((bO.two w (arr .i64 ze) ((arr .i64 ze).setIfInBounds 0 (.int .i64 (n:Int))) 125 125).cast (l':=[(w.heap.size,arr .i64 ze, 125),(w.heap.size+1,arr .i64 (ze.set 0 (n:Int)), 125)]) (by rw [← bq]))
 have iY:=abC (bO.two w (arr .i64 ze) (arr .i64 ze) 125 125)
 have HE:=abC hE
 have q0:=aP (iY.out.get 1 rfl) 0 (by rw [dG.out];decide)
 have q1:=aC (iY.out.get 1 rfl) 0
 obtain ⟨cs,hcs⟩:∃ cs,cs=ze.set 0 (n:Int):=⟨_,rfl⟩
 have HOL:Hid (cs.length=16):=abC (by rw [hcs,abL];exact dG.out)
 rw [← hcs] at bW HE
 clear iO hE hcs iY
 go_enter Tryz.func134, Tryz.ntmps134
 go_wp2_with (first|((with_reducible refine aS 2 ?_);refine ah rfl 125 rfl _ (dO.out _) ?_)|((with_reducible refine aS 3 ?_);refine ah rfl 125 rfl _ (dO.out _) ?_)|((with_reducible refine aS 6 ?_);refine lL rfl rfl (bW.out.get 1 rfl) rfl (aj _ _) Tryz.underlying125 rfl (bK HOL.out) ?_)|((with_reducible refine aT 2 ?_);refine lS rfl rfl bW 0 rfl rfl rfl (av _ _ HOL.out dG.out) (dx HOL.out) (ak _ _) ?_;intro w7 fC))
 (try simp only [Exit.inBlock,Exit.then])
 refine bodyPost_ret (results_cell_row rfl _ _ (w.heap.size) 125 _ (0,0) _ rfl (fC.out.get 0 rfl) Tryz.underlying125 rfl (dx HOL.out)) rfl ?_
 exact ⟨_,rfl,HE.out,fC.out.below⟩
def jQ (xs ys:List Int) (i:Nat):List Int:=tb 16 fun j=>if j < i then xs.getD j 0+ys.getD j 0 else xs.getD j 0
theorem FH (xs ys:List Int) (h:xs.length=16):jQ xs ys 0=xs:=by
 refine Eq.trans (cO _ _ _ fun i _=>?_) (CZ 16 xs h).symm
 rw [if_neg (by omega)]
theorem I5 (xs ys:List Int):jQ xs ys 16=EJ xs ys:=cO _ _ _ fun i hi=>by rw [if_pos hi]
theorem I4 (xs ys:List Int) (i:Nat) (h:i < 16):(jQ xs ys i).getD i 0=xs.getD i 0:=by rw [jQ,jl _ _ _ h,if_neg (by omega)]
theorem FI (xs ys:List Int) (i:Nat):(jQ xs ys i).set i (xs.getD i 0+ys.getD i 0)=jQ xs ys (i+1):=by
 rw [jQ,iP]
 refine cO _ _ _ fun j _=>?_
 by_cases e:j=i
 ·subst e;rw [if_pos rfl,if_pos (by omega)]
 ·rw [if_neg e]
  by_cases e3:j < i
  ·rw [if_pos e3,if_pos (by omega)]
  ·rw [if_neg e3,if_neg (by omega)]
theorem iZ (xs ys:List Int) (a b:Nat) (w:World) (hx:El xs a) (hy:El ys b) :
  Calls Tryz.prog 142 #[.agg (arr .i64 xs), .agg (arr .i64 ys)] w fun e w'=>∃ zs,e = .returned (.agg (arr .i64 zs))∧El zs (aL a b)∧Below w.heap.size w w':=by
 obtain ⟨ze,iO,dO,dG⟩:=zN gM
 have bW:=abC (bO.three w (arr .i64 xs) (arr .i64 ys) (arr .i64 ze) 125 125 125)
 have HX:=abC hx
 have HY:=abC hy
 have HE:=abC (El.add hx hy)
 have HC:=abC (fun w=>iJ (EJ xs ys) w (dX _ _) (zf _ _ _ fun i _=>by
  have h1:=bV xs 1048576 hx.2.1 (by decide) i
  have h2:=bV ys 1048576 hy.2.1 (by decide) i
  omega))
 obtain ⟨rs,hrs⟩:∃ rs,rs=carry (EJ xs ys):=⟨_,rfl⟩
 rw [← hrs] at HE HC
 have iR:Hid (rs.length=16):=abC (by rw [hrs];exact ig _)
 obtain ⟨ss,hss⟩:∃ ss,ss=EJ xs ys:=⟨_,rfl⟩
 have HSL:Hid (ss.length=16):=abC (by rw [hss];exact dX _ _)
 rw [← hss] at HC
 have HSS:=abC hss
 clear iO hx hy hrs hss
 go_enter Tryz.func142, Tryz.ntmps142
 go_wp2_with (first|((with_reducible refine aS 4 ?_);refine ah rfl 125 rfl _ (dO.out _) ?_))
 go_loopw [5] (fun v wr=>∃ i:Nat,i≤16∧v = .int .i64 i∧∃ cs:List Int,cs=jQ xs ys i∧bO w wr [(w.heap.size,arr .i64 cs, 125),(w.heap.size+1,arr .i64 ys, 125),(w.heap.size+1+1,arr .i64 ze, 125)]) (fun v _=>16 - (intOf v).toNat)
 case atStart=>exact ⟨0,abE _,rfl,_,(FH xs ys HX.out.1).symm,bW.out⟩
 clear bW
 case round =>
 obtain ⟨i,hi,rfl,cs,hcs,hB⟩:=hrel
 have cl:cs.length=16:=by rw [hcs];exact dX _ _
 by_cases hlt:i < 16
 ·have q0:=aP (hB.get 0 rfl) i (by rw [cl];exact hlt)
  have q1:=aP (hB.get 1 rfl) i (by rw [HY.out.1];exact hlt)
  have q3:=aC (hB.get 0 rfl) i
  rw [hcs,I4 xs ys i hlt] at q0
  have b0:=bV xs 1048576 HX.out.2.1 (by decide) i
  have b1:=bV ys 1048576 HY.out.2.1 (by decide) i
  have st:=FI xs ys i
  generalize xs.getD i 0=x at q0 b0 st
  generalize ys.getD i 0=y at q1 b1 st
  have hb1:=hB.cell 0 rfl i (.int .i64 (x+y))
  have e2:(arr .i64 cs).setIfInBounds i (.int .i64 (x+y))=arr .i64 (jQ xs ys (i+1)):=by rw [bq,hcs,st]
  have HB1:=abC (hb1.cast (l':=[(w.heap.size,arr .i64 (jQ xs ys (i+1)), 125),(w.heap.size+1,arr .i64 ys, 125),(w.heap.size+1+1,arr .i64 ze, 125)]) (by rw [← e2];rfl))
  clear hb1 e2 hcs hB st cl
  go_wp2_with fail
  go_region
  go_wp2_with fail
  go_roundw
  case rel=>exact ⟨i+1,by omega,by go_num,_,rfl,HB1.out.drew⟩
  case measure=>simp [intOf];omega
 ·obtain rfl:i=16:=by omega
  rw [I5,← HSS.out] at hcs
  subst hcs
  have HB2:=abC hB
  clear hB cl
  go_wp2_with (first|((with_reducible refine aS 19 ?_);refine lL rfl rfl (HB2.out.get 0 rfl) rfl (aj _ _) Tryz.underlying125 rfl (bK HSL.out) ?_)|((with_reducible show Calls _ _ #[.agg _] _ _);go_at_call 179; refine lC (HC.out _) HB2 ?_;intro w6 mH)|((with_reducible refine aT 4 ?_);refine lS rfl rfl mH 2 rfl rfl rfl (av _ _ iR.out dG.out) (dx iR.out) (ak _ _) ?_;intro w7 fC))
  (try simp only [Exit.inBlock,Exit.then])
  refine bodyPost_ret (results_cell_row rfl _ _ (w.heap.size+1+1) 125 _ (0,0) _ rfl (fC.out.get 2 rfl) Tryz.underlying125 rfl (dx iR.out)) rfl ?_
  exact ⟨_,rfl,HE.out,fC.out.below⟩
def jP (xs ys:List Int) (i:Nat):List Int:=tb 16 fun j=>if j < i then xs.getD j 0 - ys.getD j 0 else xs.getD j 0
theorem FD (xs ys:List Int) (h:xs.length=16):jP xs ys 0=xs:=by
 refine Eq.trans (cO _ _ _ fun i _=>?_) (CZ 16 xs h).symm
 rw [if_neg (by omega)]
theorem IZ (xs ys:List Int):jP xs ys 16=Bb xs ys:=cO _ _ _ fun i hi=>by rw [if_pos hi]
theorem IY (xs ys:List Int) (i:Nat) (h:i < 16):(jP xs ys i).getD i 0=xs.getD i 0:=by rw [jP,jl _ _ _ h,if_neg (by omega)]
theorem FE (xs ys:List Int) (i:Nat):(jP xs ys i).set i (xs.getD i 0 - ys.getD i 0)=jP xs ys (i+1):=by
 rw [jP,iP]
 refine cO _ _ _ fun j _=>?_
 by_cases e:j=i
 ·subst e;rw [if_pos rfl,if_pos (by omega)]
 ·rw [if_neg e]
  by_cases e3:j < i
  ·rw [if_pos e3,if_pos (by omega)]
  ·rw [if_neg e3,if_neg (by omega)]
theorem jm (xs ys:List Int) (a b:Nat) (w:World) (hx:El xs a) (hy:El ys b) :
  Calls Tryz.prog 143 #[.agg (arr .i64 xs), .agg (arr .i64 ys)] w fun e w'=>∃ zs,e = .returned (.agg (arr .i64 zs))∧El zs (bf a b)∧Below w.heap.size w w':=by
 obtain ⟨ze,iO,dO,dG⟩:=zN gM
 have bW:=abC (bO.three w (arr .i64 xs) (arr .i64 ys) (arr .i64 ze) 125 125 125)
 have HX:=abC hx
 have HY:=abC hy
 have HE:=abC (El.sub hx hy)
 have HC:=abC (fun w=>iJ (Bb xs ys) w (dX _ _) (zf _ _ _ fun i _=>by
  have h1:=bV xs 1048576 hx.2.1 (by decide) i
  have h2:=bV ys 1048576 hy.2.1 (by decide) i
  omega))
 obtain ⟨rs,hrs⟩:∃ rs,rs=carry (Bb xs ys):=⟨_,rfl⟩
 rw [← hrs] at HE HC
 have iR:Hid (rs.length=16):=abC (by rw [hrs];exact ig _)
 obtain ⟨ss,hss⟩:∃ ss,ss=Bb xs ys:=⟨_,rfl⟩
 have HSL:Hid (ss.length=16):=abC (by rw [hss];exact dX _ _)
 rw [← hss] at HC
 have HSS:=abC hss
 clear iO hx hy hrs hss
 go_enter Tryz.func143, Tryz.ntmps143
 go_wp2_with (first|((with_reducible refine aS 4 ?_);refine ah rfl 125 rfl _ (dO.out _) ?_))
 go_loopw [5] (fun v wr=>∃ i:Nat,i≤16∧v = .int .i64 i∧∃ cs:List Int,cs=jP xs ys i∧bO w wr [(w.heap.size,arr .i64 cs, 125),(w.heap.size+1,arr .i64 ys, 125),(w.heap.size+1+1,arr .i64 ze, 125)]) (fun v _=>16 - (intOf v).toNat)
 case atStart=>exact ⟨0,abE _,rfl,_,(FD xs ys HX.out.1).symm,bW.out⟩
 clear bW
 case round =>
 obtain ⟨i,hi,rfl,cs,hcs,hB⟩:=hrel
 have cl:cs.length=16:=by rw [hcs];exact dX _ _
 by_cases hlt:i < 16
 ·have q0:=aP (hB.get 0 rfl) i (by rw [cl];exact hlt)
  have q1:=aP (hB.get 1 rfl) i (by rw [HY.out.1];exact hlt)
  have q3:=aC (hB.get 0 rfl) i
  rw [hcs,IY xs ys i hlt] at q0
  have b0:=bV xs 1048576 HX.out.2.1 (by decide) i
  have b1:=bV ys 1048576 HY.out.2.1 (by decide) i
  have st:=FE xs ys i
  generalize xs.getD i 0=x at q0 b0 st
  generalize ys.getD i 0=y at q1 b1 st
  have hb1:=hB.cell 0 rfl i (.int .i64 (x - y))
  have e2:(arr .i64 cs).setIfInBounds i (.int .i64 (x - y))=arr .i64 (jP xs ys (i+1)):=by rw [bq,hcs,st]
  have HB1:=abC (hb1.cast (l':=[(w.heap.size,arr .i64 (jP xs ys (i+1)), 125),(w.heap.size+1,arr .i64 ys, 125),(w.heap.size+1+1,arr .i64 ze, 125)]) (by rw [← e2];rfl))
  clear hb1 e2 hcs hB st cl
  go_wp2_with fail
  go_region
  go_wp2_with fail
  go_roundw
  case rel=>exact ⟨i+1,by omega,by go_num,_,rfl,HB1.out.drew⟩
  case measure=>simp [intOf];omega
 ·obtain rfl:i=16:=by omega
  rw [IZ,← HSS.out] at hcs
  subst hcs
  have HB2:=abC hB
  clear hB cl
  go_wp2_with (first|((with_reducible refine aS 19 ?_);refine lL rfl rfl (HB2.out.get 0 rfl) rfl (aj _ _) Tryz.underlying125 rfl (bK HSL.out) ?_)|((with_reducible show Calls _ _ #[.agg _] _ _);go_at_call 179; refine lC (HC.out _) HB2 ?_;intro w6 mH)|((with_reducible refine aT 4 ?_);refine lS rfl rfl mH 2 rfl rfl rfl (av _ _ iR.out dG.out) (dx iR.out) (ak _ _) ?_;intro w7 fC))
  (try simp only [Exit.inBlock,Exit.then])
  refine bodyPost_ret (results_cell_row rfl _ _ (w.heap.size+1+1) 125 _ (0,0) _ rfl (fC.out.get 2 rfl) Tryz.underlying125 rfl (dx iR.out)) rfl ?_
  exact ⟨_,rfl,HE.out,fC.out.below⟩
end Go.Proofs.YthdgbgleklkaiaaGreatDoor.Rd
namespace Go.Proofs.YthdgbgleklkaiaaGreatDoor.Rd
open Go.RowKit Lm Fp
theorem zero_31 (w:World):(zeroValue 216).run Tryz.prog w = .ok (.agg (arr .i64 (abF 31 0))) w:=by kernel_rfl
def mf (ts:List Int) (i:Nat):List Int:=tb 16 fun j=>if j < i then (if j < 15 then ts.getD j 0+38 * ts.getD (j+16) 0 else ts.getD j 0) else 0
theorem mf_zero (ts:List Int):abF 16 0=mf ts 0:=by
 rw [sN]
 exact cO _ _ _ fun j _=>by rw [if_neg (by omega)]
theorem mf_all (ts:List Int):mf ts 16=foldr ts:=cO _ _ _ fun _ hj=>if_pos hj
theorem Qj (ts:List Int) (i:Nat) (v:Int) (h:(if i < 15 then ts.getD i 0+38 * ts.getD (i+16) 0 else ts.getD i 0)=v):(mf ts i).set i v=mf ts (i+1):=by
 subst h
 rw [mf,iP]
 refine cO _ _ _ fun j _=>?_
 by_cases e:j=i
 ·subst e;rw [if_pos rfl,if_pos (show j < j+1 by omega)]
 ·rw [if_neg e]
  by_cases e3:j < i
  ·rw [if_pos e3,if_pos (show j < i+1 by omega)]
  ·rw [if_neg e3,if_neg (show ¬ j < i+1 by omega)]
theorem bM (xs ys:List Int) (a b:Nat) (w:World) (hx:El xs a) (hy:El ys b) :
  Calls Tryz.prog 132 #[.agg (arr .i64 xs), .agg (arr .i64 ys)] w fun e w'=>∃ zs,e = .returned (.agg (arr .i64 zs))∧El zs (aA a b)∧Below w.heap.size w w':=by
 obtain ⟨ze,iO,dO,dG⟩:=zN gM
 obtain ⟨zt,Ci,HZt,HLt⟩:=zN zero_31
 have HVt:Hid (vi zt=0):=abC (by rw [Ci];decide)
 have HGt:Hid (∀ n,zt.getD n 0=0):=abC (by intro n;rw [Ci,List.getD,List.getElem?_replicate];split <;> rfl)
 have HZ0:Hid (∀ ts,ze=mf ts 0):=abC (fun ts=>by rw [iO];exact mf_zero ts)
 have HX:=abC hx
 have HY:=abC hy
 have HXB:=abC (bV xs 1048576 hx.2.1 (by decide))
 have HYB:=abC (bV ys 1048576 hy.2.1 (by decide))
 have HYV:Hid (si 16 (fun j=>65536 ^ j * ys.getD j 0)=vi ys):=abC (lX 16 ys hy.1).symm
 have HXV:Hid (si 16 (fun j=>65536 ^ j * xs.getD j 0)=vi xs):=abC (lX 16 xs hx.1).symm
 have bW:=abC (bO.four w (arr .i64 xs) (arr .i64 ys) (arr .i64 ze) (arr .i64 zt) 125 125 125 216)
 clear iO Ci hx hy
 go_enter Tryz.func132, Tryz.ntmps132
 go_wp2_with (first|((with_reducible refine aS 4 ?_);refine ah rfl 125 rfl _ (dO.out _) ?_)|((with_reducible refine aS 5 ?_);refine ah rfl 216 rfl _ (HZt.out _) ?_))
 go_loopw [6] (fun v wr=>∃ i:Nat,i≤16∧v = .int .i64 i∧∃ ts:List Int,ts.length=31∧(∀ n, -(1099511627776 * (i:Int))≤ts.getD n 0∧ts.getD n 0≤1099511627776 * (i:Int))∧vi ts=si i (fun j=>65536 ^ j * xs.getD j 0) * vi ys∧bO w wr [(w.heap.size,arr .i64 xs, 125),(w.heap.size+1,arr .i64 ys, 125),(w.heap.size+1+1,arr .i64 ze, 125),(w.heap.size+1+1+1,arr .i64 ts, 216)]) (fun v _=>16 - (intOf v).toNat)
 case atStart=>exact ⟨0,abE _,rfl,zt,HLt.out,(by intro n;rw [HGt.out n];omega),(by rw [HVt.out,si,Int.zero_mul]),bW.out⟩
 clear bW
 case round =>
 obtain ⟨i,hi,rfl,ts,tl,UY,tv,hB⟩:=hrel
 by_cases hlt:i < 16
 ·have HB:=abC hB
  have uD:=abC tl
  have HTB:=abC UY
  have HTV:=abC tv
  clear hB tl UY tv
  go_wp2_with fail
  generalize Value.bool (decide ((i:Int) < 16))=u11'
  go_loopw [7] (fun v wr=>∃ k:Nat,k≤16∧v = .int .i64 k∧∃ us:List Int,us.length=31∧(∀ n, -(1099511627776 * ((i:Int)+if i≤n∧n < i+k then 1 else 0))≤us.getD n 0∧us.getD n 0≤1099511627776 * ((i:Int)+if i≤n∧n < i+k then 1 else 0))∧vi us=si i (fun j=>65536 ^ j * xs.getD j 0) * vi ys+65536 ^ i * xs.getD i 0 * si k (fun j=>65536 ^ j * ys.getD j 0)∧bO w wr [(w.heap.size,arr .i64 xs, 125),(w.heap.size+1,arr .i64 ys, 125),(w.heap.size+1+1,arr .i64 ze, 125),(w.heap.size+1+1+1,arr .i64 us, 216)]) (fun v _=>16 - (intOf v).toNat)
  case atStart=>exact ⟨0,abE _,rfl,ts,uD.out,(by intro n;rw [if_neg (by omega)];have:=HTB.out n;omega),(by rw [HTV.out,si,Int.mul_zero,Int.add_zero]),HB.out⟩
  case round =>
   obtain ⟨k,hk,rfl,us,ul,ub,uv,hU⟩:=hrel
   by_cases hlk:k < 16
   ·have q0:=aP (hU.get 0 rfl) i (by rw [HX.out.1];exact hlt)
    have q1:=aP (hU.get 1 rfl) k (by rw [HY.out.1];exact hlk)
    have q2:=aP (hU.get 3 rfl) (i+k) (by rw [ul];omega)
    have q3:=aC (hU.get 3 rfl) (i+k)
    have pb:=prod_bound xs ys us i k HXB.out HYB.out hlt hlk ul ub
    have ps:=Sz xs ys us i k hlt hlk ul _ uv
    have ub0:=ub (i+k)
    rw [if_neg (by omega)] at ub0
    have hp : -1099511627776≤xs.getD i 0 * ys.getD k 0∧xs.getD i 0 * ys.getD k 0≤1099511627776:=by
     have h1:=HXB.out i
     have h2:=HYB.out k
     generalize xs.getD i 0=x at h1
     generalize ys.getD k 0=y at h2
     have e:=Int.natAbs_mul x y
     have a1:x.natAbs≤1048576:=by omega
     have a2:y.natAbs≤1048576:=by omega
     have:=Nat.mul_le_mul a1 a2
     omega
    have HPB:=abC pb
    have Oe:=abC ps
    have Og:Hid ((us.set (i+k) (us.getD (i+k) 0+xs.getD i 0 * ys.getD k 0)).length=31):=abC (by rw [abL,ul])
    have hb1:=hU.cell 3 rfl (i+k) (.int .i64 (us.getD (i+k) 0+xs.getD i 0 * ys.getD k 0))
    obtain ⟨vs,hvs⟩:∃ vs,vs=us.set (i+k) (us.getD (i+k) 0+xs.getD i 0 * ys.getD k 0):=⟨_,rfl⟩
    have e2:(arr .i64 us).setIfInBounds (i+k) (.int .i64 (us.getD (i+k) 0+xs.getD i 0 * ys.getD k 0))=arr .i64 vs:=by rw [bq,hvs]
    have HB1:=abC (hb1.cast (l':=[(w.heap.size,arr .i64 xs, 125),(w.heap.size+1,arr .i64 ys, 125),(w.heap.size+1+1,arr .i64 ze, 125),(w.heap.size+1+1+1,arr .i64 vs, 216)]) (by rw [← e2];rfl))
    rw [← hvs] at HPB Oe Og
    clear hb1 e2 hvs hU ul ub uv pb ps
    generalize us.getD (i+k) 0=u at q2 ub0 HB1
    generalize xs.getD i 0=x at q0 hp Oe HB1
    generalize ys.getD k 0=y at q1 hp HB1
    go_wp2_with fail
    go_region
    go_wp2_with fail
    go_roundw
    case rel=>exact ⟨k+1,by omega,by go_num,vs,Og.out,HPB.out,Oe.out,HB1.out.drew⟩
    case measure=>simp [intOf];omega
   ·obtain rfl:k=16:=by omega
    rw [HYV.out] at uv
    have HU:=abC hU
    have Ke:=abC ul
    have HUB:Hid (∀ n, -(1099511627776 * ((i+1:Nat):Int))≤us.getD n 0∧us.getD n 0≤1099511627776 * ((i+1:Nat):Int)):=abC (by
     intro n
     have:=ub n
     by_cases e:i≤n∧n < i+16
     ·rw [if_pos e] at this;omega
     ·rw [if_neg e] at this;omega)
    have HUV:Hid (vi us=si (i+1) (fun j=>65536 ^ j * xs.getD j 0) * vi ys):=abC (by rw [uv,si,Int.add_mul])
    clear hU ul ub uv HB uD HTB HTV
    go_wp2_with fail
    go_roundw
    case rel=>exact ⟨i+1,by omega,by go_num,us,Ke.out,HUB.out,HUV.out,HU.out⟩
    case measure=>simp [intOf];omega
 ·obtain rfl:i=16:=by omega
  rw [HXV.out] at tv
  have hf:=El.mul HX.out HY.out tl (by intro n;have:=UY n;omega) tv
  have fb:∀ x∈foldr ts, -1125899906842624≤x∧x≤1125899906842624:=zf _ _ _ fun i _=>by
   have h1:=UY i
   have h2:=UY (i+16)
   split <;> omega
  have n1:ko (38 * 17180200000) (carry (foldr ts)):=kS _ 1125899906842624 17180200000 (bV _ _ fb (by decide)) (by decide) (by decide)
  have xB:=abC (fun w=>iJ (foldr ts) w (dX _ _) (fun x hx=>by have:=fb x hx;omega))
  have Rl:=abC (fun w=>iJ (carry (foldr ts)) w (ig _) (fun x hx=>by have:=mR n1 (by decide) x hx;omega))
  obtain ⟨rs,hrs⟩:∃ rs,rs=carry (carry (foldr ts)):=⟨_,rfl⟩
  have iR:Hid (rs.length=16):=abC (by rw [hrs];exact ig _)
  rw [← hrs] at hf Rl
  obtain ⟨cs1,hcs1⟩:∃ cs,cs=carry (foldr ts):=⟨_,rfl⟩
  rw [← hcs1] at xB Rl
  have HF:=abC hf
  have HTB:=abC UY
  have uD:=abC tl
  have HB:=abC (hB.alloc (arr .i64 ze) 125)
  clear hf fb n1 hrs hcs1 UY tl tv hB
  go_wp2_with (first|((with_reducible refine aS 8 ?_);refine ah rfl 125 rfl _ (dO.out _) ?_))
  generalize wr.heap.size=go at HB ⊢
  go_loopw [9] (fun v wq=>∃ i:Nat,i≤16∧v = .int .i64 i∧∃ os:List Int,os=mf ts i∧bO w wq [(w.heap.size,arr .i64 xs, 125),(w.heap.size+1,arr .i64 ys, 125),(w.heap.size+1+1,arr .i64 ze, 125),(w.heap.size+1+1+1,arr .i64 ts, 216),(go,arr .i64 os, 125)]) (fun v _=>16 - (intOf v).toNat)
  case atStart=>exact ⟨0,abE _,rfl,_,HZ0.out ts,HB.out⟩
  case round =>
   obtain ⟨i,hi,rfl,os,hos,hQ⟩:=hrel
   have ol:os.length=16:=by rw [hos];exact dX _ _
   by_cases hlo:i < 16
   ·have q0:=aP (hQ.get 3 rfl) i (by rw [uD.out];omega)
    have q2:=aP (hQ.get 4 rfl) i (by rw [ol];exact hlo)
    have q3:=aC (hQ.get 4 rfl) i
    have b0:=HTB.out i
    by_cases h15:i < 15
    ·have q1:=aP (hQ.get 3 rfl) (i+16) (by rw [uD.out];omega)
     have b1:=HTB.out (i+16)
     have st:=Qj ts i _ (if_pos h15)
     generalize ts.getD i 0=x at q0 b0 st
     generalize ts.getD (i+16) 0=y at q1 b1 st
     have hb1:=(hQ.cell 4 rfl i (.int .i64 x)).cell 4 rfl i (.int .i64 (x+38 * y))
     have e2:((arr .i64 os).setIfInBounds i (.int .i64 x)).setIfInBounds i (.int .i64 (x+38 * y))=arr .i64 (mf ts (i+1)):=by rw [bq,bq,List.set_set,hos,st]
     have HB1:=abC (hb1.cast (l':=[(w.heap.size,arr .i64 xs, 125),(w.heap.size+1,arr .i64 ys, 125),(w.heap.size+1+1,arr .i64 ze, 125),(w.heap.size+1+1+1,arr .i64 ts, 216),(go,arr .i64 (mf ts (i+1)), 125)]) (by rw [← e2];rfl))
     clear hb1 e2 hos hQ st ol
     go_wp2_with fail
     go_region
     go_wp2_with fail
     go_roundw
     case rel=>exact ⟨i+1,by omega,by go_num,_,rfl,HB1.out.drew⟩
     case measure=>simp [intOf];omega
    ·have st:=Qj ts i _ (if_neg h15)
     generalize ts.getD i 0=x at q0 b0 st
     have hb1:=hQ.cell 4 rfl i (.int .i64 x)
     have e2:(arr .i64 os).setIfInBounds i (.int .i64 x)=arr .i64 (mf ts (i+1)):=by rw [bq,hos,st]
     have HB1:=abC (hb1.cast (l':=[(w.heap.size,arr .i64 xs, 125),(w.heap.size+1,arr .i64 ys, 125),(w.heap.size+1+1,arr .i64 ze, 125),(w.heap.size+1+1+1,arr .i64 ts, 216),(go,arr .i64 (mf ts (i+1)), 125)]) (by rw [← e2];rfl))
     clear hb1 e2 hos hQ st ol
     go_wp2_with fail
     go_roundw
     case rel=>exact ⟨i+1,by omega,by go_num,_,rfl,HB1.out⟩
     case measure=>simp [intOf];omega
   ·obtain rfl:i=16:=by omega
    rw [mf_all] at hos
    rw [← hos] at xB
    have HQ:=abC hQ
    have HOL:=abC ol
    clear hQ ol hos HB
    go_wp2_with (first|((with_reducible refine aS 57 ?_);refine lL rfl rfl (HQ.out.get 4 rfl) rfl (aj _ _) Tryz.underlying125 rfl (bK HOL.out) ?_)|((with_reducible show Calls _ _ #[.agg (arr _ os)] _ _);go_at_call 179; refine lC (xB.out _) HQ ?_;intro w6 mH)|((with_reducible show Calls _ _ #[.agg (arr _ cs1)] _ _);go_at_call 179; refine lC (Rl.out _) mH ?_;intro w7 fC)|((with_reducible refine aT 4 ?_);refine lS rfl rfl fC 2 rfl rfl rfl (av _ _ iR.out dG.out) (dx iR.out) (ak _ _) ?_;intro w8 gu))
    (try simp only [Exit.inBlock,Exit.then])
    refine bodyPost_ret (results_cell_row rfl _ _ (w.heap.size+1+1) 125 _ (0,0) _ rfl (gu.out.get 2 rfl) Tryz.underlying125 rfl (dx iR.out)) rfl ?_
    exact ⟨_,rfl,HF.out,gu.out.below⟩
end Go.Proofs.YthdgbgleklkaiaaGreatDoor.Rd
namespace Go.Proofs.YthdgbgleklkaiaaGreatDoor.Rd
open Go.RowKit Lm Fp
theorem and1 (d:Int) (h:d = -1∨d=0):bits .and .i64 d 1 = -d:=by rcases h with rfl|rfl <;> decide
theorem toNat_ofInt64 (x:Int):((abD 64 x).toNat:Int)=x % 18446744073709551616:=by
 rw [BitVec.toNat_ofInt]
 have:=Int.emod_nonneg x (show (18446744073709551616:Int)≠0 by decide)
 exact Int.toNat_of_nonneg this
theorem andFF (x:Int):bits .and .i64 x 65535=x % 65536:=by
 have h1:=toNat_ofInt64 x
 have h2:(abD 64 (65535:Int)).toNat=65535:=by decide
 show IntKind.i64.wrap ((abD 64 x &&& abD 64 (65535:Int)).toNat:Int)=_
 rw [abM,h2,show 65535=2 ^ 16 - 1 from rfl,abN,IntKind.wrap_i64]
 omega
theorem andF (x:Int):IntKind.u8.wrap (bits .and .i64 x 255)=x % 256:=by
 have h1:=toNat_ofInt64 x
 have h2:(abD 64 (255:Int)).toNat=255:=by decide
 show IntKind.u8.wrap (IntKind.i64.wrap ((abD 64 x &&& abD 64 (255:Int)).toNat:Int))=_
 rw [abM,h2,show 255=2 ^ 8 - 1 from rfl,abN,IntKind.wrap_i64,IntKind.wrap_u8]
 omega
def it (V:Nat):Nat→Nat
 | 0=>V
 | k+1=>qN (it V k)
theorem Xw (V:Nat) (h:V < 65536 ^ 16):it V 3=V % p:=by
 have e:=Tn V (Nat.lt_of_lt_of_le h (by decide))
 show qN (qN (qN V))=_
 rw [e,qN,if_pos (Nat.mod_lt _ zQ)]
theorem nQ (xs:List Int) (a:Nat) (w:World) (hx:El xs a) :
  Calls Tryz.prog 131 #[.agg (arr .i64 xs)] w fun e w'=>e = .returned (.agg (arr .u8 (aW (bD 256 32 a))))∧Below w.heap.size w w':=by
 obtain ⟨ze,iO,dO,dG⟩:=zN gM
 obtain ⟨zn,hzn,dB,dw⟩:=zN zero_num
 have HZ0:Hid (∀ us,zn=outs us 0):=abC (fun us=>by rw [hzn];exact SF us)
 have HZ1:Hid (∀ ds:List Int,ze.set 0 (ds.getD 0 0)=sb ds 1):=abC (fun ds=>by rw [iO];exact sb_one ds)
 have HZG:Hid (ze.getD 0 0=0):=abC (by rw [iO];rfl)
 obtain ⟨f1,f2⟩:=TI hx
 have n1:ko (38 * 17) (carry xs):=kS xs 1048576 17 (bV xs 1048576 hx.2.1 (by decide)) (by decide) (by decide)
 have n2:ko 38 (carry (carry xs)):=qc _ _ n1 (by decide) (by decide)
 have n3:=qd _ n2
 have HC0:=abC (fun w=>iJ xs w hx.1 (fun x h=>by have:=hx.2.1 x h;omega))
 have xB:=abC (fun w=>iJ (carry xs) w (ig _) (fun x h=>by have:=mR n1 (by decide) x h;omega))
 have Rl:=abC (fun w=>iJ (carry (carry xs)) w (ig _) (fun x h=>by have:=mR n2 (by decide) x h;omega))
 have HC3:=abC (fun w=>iJ (carry (carry (carry xs))) w (ig _) (fun x h=>by have:=mR n3 (by decide) x h;omega))
 obtain ⟨c4,h4⟩:∃ c,c=carry (carry (carry (carry xs))):=⟨_,rfl⟩
 rw [← h4] at f1 f2 HC3
 clear h4
 obtain ⟨c3,h3⟩:∃ c,c=carry (carry (carry xs)):=⟨_,rfl⟩
 rw [← h3] at Rl HC3
 clear h3
 obtain ⟨c2,h2⟩:∃ c,c=carry (carry xs):=⟨_,rfl⟩
 rw [← h2] at xB Rl
 clear h2
 obtain ⟨c1,h1⟩:∃ c,c=carry xs:=⟨_,rfl⟩
 rw [← h1] at HC0 xB
 clear h1 n1 n2 n3
 obtain ⟨c0,h0⟩:∃ c,c=xs:=⟨_,rfl⟩
 rw [← h0] at HC0 hx ⊢
 obtain ⟨V,hV⟩:=SN f1
 have HN4:=abC f1
 have HV:=abC hV
 have hV2:=(Du f1 V hV).2
 have HIT:Hid (it V 3=a):=abC (by
  rw [Xw V hV2]
  rw [hV,← Int.natCast_emod] at f2
  omega)
 have HL4:=abC f1.1
 have Oo:=abC hx.1
 have bW:=abC (bO.two w (arr .i64 c0) (arr .u8 zn) 125 25)
 clear iO hzn hx f1 f2 hV hV2 h0
 go_enter Tryz.func131, Tryz.ntmps131
 go_wp2_with (first|((with_reducible refine aS 2 ?_);refine ah rfl 25 rfl _ (dB.out _) ?_)|((with_reducible refine aS 8 ?_);refine lL rfl rfl (bW.out.get 0 rfl) rfl (aj _ _) Tryz.underlying125 rfl (bK Oo.out) ?_)|((with_reducible show Calls _ _ #[.agg (arr _ c0)] _ _);go_at_call 179; refine lC (HC0.out _) bW ?_;intro w1 HB1)|((with_reducible show Calls _ _ #[.agg (arr _ c1)] _ _);go_at_call 179; refine lC (xB.out _) HB1 ?_;intro w2 HB2)|((with_reducible show Calls _ _ #[.agg (arr _ c2)] _ _);go_at_call 179; refine lC (Rl.out _) HB2 ?_;intro w3 HB3)|((with_reducible show Calls _ _ #[.agg (arr _ c3)] _ _);go_at_call 179; refine lC (HC3.out _) HB3 ?_;intro w4 ou)|((with_reducible refine aT 1 ?_);refine lS rfl rfl ou 0 rfl rfl rfl (av _ _ HL4.out Oo.out) (dx HL4.out) (ak _ _) ?_;intro w5 gy))
 go_loopw [3] (fun v wr=>∃ k:Nat,k≤3∧v = .int .i64 k∧∃ us:List Int,ko 0 us∧vi us=(it V k:Int)∧bO w wr [(w.heap.size,arr .i64 us, 125),(w.heap.size+1,arr .u8 zn, 25)]) (fun v _=>3 - (intOf v).toNat)
 case atStart=>exact ⟨0,abE _,rfl,c4,HN4.out,HV.out,gy.out⟩
 clear bW HB1 HB2 HB3 ou gy
 case round =>
 obtain ⟨k,hk,rfl,us,un,uv,hB⟩:=hrel
 by_cases hlt:k < 3
 ·obtain ⟨ds,hds⟩:∃ ds,ds=kD us:=⟨_,rfl⟩
  have HUN:=abC un
  have HUV:=abC uv
  have HDS:=abC hds
  have HCR:Hid (∀ j,j < 16 → -65536≤ds.getD j 0+cr ds j∧ds.getD j 0+cr ds j≤65535):=abC (fun j hj=>by
   have h1:=jM un j
   have h2:=vO j
   have h3:=Ga un j (by omega)
   rw [hds,mZ us j hj]
   omega)
  have b0:=jM un 0
  have e0:us.getD 0 0 - 65517=ds.getD 0 0:=by rw [hds,mZ us 0 (by decide)];rfl
  have hb1:=hB.alloc (arr .i64 ze) 125
  have q0:=aP (hb1.get 0 rfl) 0 (by rw [un.1];decide)
  have q1:=aP (hb1.get 2 rfl) 0 (by rw [dG.out];decide)
  have q2:=aC (hb1.get 2 rfl) 0
  have HBM:Hid (bO w (wr.alloc (.cells ((arr .i64 ze).setIfInBounds 0 (.int .i64 (us.getD 0 0 - 65517))) 125)) [(w.heap.size,arr .i64 us, 125),(w.heap.size+1,arr .u8 zn, 25),(wr.heap.size,arr .i64 (sb ds 1), 125)]):=abC ((hB.alloc ((arr .i64 ze).setIfInBounds 0 (.int .i64 (us.getD 0 0 - 65517))) 125).cast (by rw [bq,e0,HZ1.out ds];rfl))
  generalize us.getD 0 0=x at q0 b0 HBM
  clear hB un uv hds e0 hb1
  go_wp2_with (first|((with_reducible refine aS 4 ?_);refine ah rfl 125 rfl _ (dO.out _) ?_))
  generalize wr.heap.size=gm at HBM ⊢
  generalize wr.alloc (.cells ((arr .i64 ze).setIfInBounds 0 (.int .i64 (x - 65517))) 125)=wm at HBM ⊢
  clear q0 q1 q2 b0
  go_loopw [5] (fun v wq=>∃ j:Nat,j≤14∧v = .int .i64 ((j:Int)+1)∧∃ ms:List Int,ms=sb ds (j+1)∧bO w wq [(w.heap.size,arr .i64 us, 125),(w.heap.size+1,arr .u8 zn, 25),(gm,arr .i64 ms, 125)]) (fun v _=>15 - (intOf v).toNat)
  case atStart=>exact ⟨0,abE _,rfl,_,rfl,HBM.out⟩
  case round =>
   obtain ⟨j,hj,rfl,ms,hms,hQ⟩:=hrel
   have ml:ms.length=16:=by rw [hms];exact dX _ _
   have mg:=sb_get ds j (by omega)
   have cb:=HCR.out j (by omega)
   by_cases hlo:j < 14
   ·have q0:=aP (hQ.get 0 rfl) (j+1) (by rw [HUN.out.1];omega)
    have q1:=aP (hQ.get 2 rfl) j (by rw [ml];omega)
    have q2:=aP (hQ.get 2 rfl) (j+1) (by rw [ml];omega)
    have q3:=aC (hQ.get 2 rfl) (j+1)
    have q4:=aC (hQ.get 2 rfl) j
    have b0:=jM HUN.out (j+1)
    have e0:us.getD (j+1) 0 - 65535=ds.getD (j+1) 0:=by rw [HDS.out,mZ us (j+1) (by omega),P16_get (j+1) (by omega) (by omega)]
    rw [hms,mg] at q1
    have st:=fun x hx=>PI ds j x (by omega) hx
    generalize hx:ds.getD j 0+cr ds j=x at q1 st cb
    have st:=st x rfl
    rw [← e0] at st
    generalize us.getD (j+1) 0=y at q0 b0 st
    have ha:=and1 (x / 65536) (by omega)
    have hf:=andFF x
    have hb1:=(hQ.cell 2 rfl (j+1) (.int .i64 (y - 65535 - bits .and .i64 (x / 65536) 1))).cell 2 rfl j (.int .i64 (bits .and .i64 x 65535))
    have e2:((arr .i64 ms).setIfInBounds (j+1) (.int .i64 (y - 65535 - bits .and .i64 (x / 65536) 1))).setIfInBounds j (.int .i64 (bits .and .i64 x 65535))=arr .i64 (sb ds (j+1+1)):=by
     rw [ha,hf,bq,bq,hms,show y - 65535 - -(x / 65536)=y - 65535+x / 65536 by omega,st]
    have HB1:=abC ((hb1.drew).cast (l':=[(w.heap.size,arr .i64 us, 125),(w.heap.size+1,arr .u8 zn, 25),(gm,arr .i64 (sb ds (j+1+1)), 125)]) (by rw [← e2];rfl))
    have hbd:bits .and .i64 (x / 65536) 1=0∨bits .and .i64 (x / 65536) 1=1:=by rw [ha];omega
    clear hb1 e2 hms hQ st ml mg hx ha hf e0
    go_wp2_with fail
    go_region
    go_wp2_with fail
    go_roundw
    case rel=>exact ⟨j+1,by omega,by go_num,_,rfl,HB1.out⟩
    case measure=>simp [intOf];omega
   ·obtain rfl:j=14:=by omega
    have q0:=aP (hQ.get 0 rfl) 15 (by rw [HUN.out.1];omega)
    have q1:=aP (hQ.get 2 rfl) 14 (by rw [ml];omega)
    have q2:=aP (hQ.get 2 rfl) 15 (by rw [ml];omega)
    have q3:=aC (hQ.get 2 rfl) 15
    have q4:=aC (hQ.get 2 rfl) 14
    have b0:=jM HUN.out 15
    have e0:us.getD 15 0 - 32767=ds.getD 15 0:=by rw [HDS.out,mZ us 15 (by omega)];rfl
    rw [hms,mg] at q1
    have st:=fun x hx=>PI ds 14 x (by omega) hx
    have sd:=sub_dec HUN.out (it V k) HUV.out
    rw [← HDS.out,← e0] at sd
    have c15:cr ds 15=(ds.getD 14 0+cr ds 14) / 65536:=rfl
    rw [c15] at sd
    generalize hx:ds.getD 14 0+cr ds 14=x at q1 st cb sd
    have st:=st x rfl
    rw [show (14+1:Nat)=15 from rfl,← e0,show (14+2:Nat)=16 from rfl,sb_last] at st
    generalize us.getD 15 0=y at q0 b0 st sd
    have ha:=and1 (x / 65536) (by omega)
    have hf:=andFF x
    have hb1:=(hQ.cell 2 rfl 15 (.int .i64 (y - 32767 - bits .and .i64 (x / 65536) 1))).cell 2 rfl 14 (.int .i64 (bits .and .i64 x 65535))
    have e2:((arr .i64 ms).setIfInBounds 15 (.int .i64 (y - 32767 - bits .and .i64 (x / 65536) 1))).setIfInBounds 14 (.int .i64 (bits .and .i64 x 65535))=arr .i64 (mid ds 15):=by
     rw [ha,hf,bq,bq,hms,show y - 32767 - -(x / 65536)=y - 32767+x / 65536 by omega,st]
    have HB1:=abC (hb1.cast (l':=[(w.heap.size,arr .i64 us, 125),(w.heap.size+1,arr .u8 zn, 25),(gm,arr .i64 (mid ds 15), 125)]) (by rw [← e2];rfl))
    obtain ⟨mm,hmm⟩:∃ m,m=mid ds 15:=⟨_,rfl⟩
    rw [← hmm] at HB1 sd
    have uE:Hid (mm.length=16):=abC (by rw [hmm];exact dX _ _)
    have hbd:bits .and .i64 (x / 65536) 1=0∨bits .and .i64 (x / 65536) 1=1:=by rw [ha];omega
    have hsg:y - 32767 - bits .and .i64 (x / 65536) 1=y - 32767+x / 65536:=by rw [ha];omega
    rcases sd with ⟨s1,s2⟩|⟨s1,s2,s3,s4⟩
    ·have hge:¬ 0≤y - 32767 - bits .and .i64 (x / 65536) 1:=by omega
     have HUW:Hid (vi us=(it V (k+1):Int)):=abC (by rw [HUV.out,it,qN,if_pos s2])
     clear hb1 e2 hms hQ st ml mg hx ha hf e0 c15 s1 s2 hmm hsg
     go_wp2_with fail
     go_roundw
     case rel=>exact ⟨k+1,by omega,by go_num,us,HUN.out,HUW.out,HB1.out.less 2⟩
     case measure=>simp [intOf];omega
    ·have hge:0≤y - 32767 - bits .and .i64 (x / 65536) 1:=by omega
     have HUM:=abC s3
     have HUW:Hid (vi mm=(it V (k+1):Int)):=abC (by rw [s4,it,qN,if_neg (by omega)])
     have Ke:=abC HUN.out.1
     clear hb1 e2 hms hQ st ml mg hx ha hf e0 c15 s1 s2 s3 s4 hmm hsg
     go_wp2_with (first|((with_reducible refine aS 62 ?_);refine lL rfl rfl (HB1.out.get 2 rfl) rfl (aj _ _) Tryz.underlying125 rfl (bK uE.out) ?_)|((with_reducible refine aT 1 ?_);refine lS rfl rfl HB1 0 rfl rfl rfl (av _ _ uE.out Ke.out) (dx uE.out) (ak _ _) ?_;intro w7 fC))
     go_roundw
     case rel=>exact ⟨k+1,by omega,by go_num,mm,HUM.out,HUW.out,fC.out.less 2⟩
     case measure=>simp [intOf];omega
 ·obtain rfl:k=3:=by omega
  rw [HIT.out] at uv
  obtain ⟨d1,d2⟩:=Du un a uv
  have HUN:=abC un
  have HB:=abC (hB.alloc (arr .u8 zn) 25)
  have HOA:Hid (outs us 16=aW (bD 256 32 a)):=abC (by rw [d1];exact WQ a)
  obtain ⟨oa,hoa⟩:∃ o,o=aW (bD 256 32 a):=⟨_,rfl⟩
  rw [← hoa] at HOA
  have Av:=abC hoa
  clear hB un uv d1 d2 hoa
  go_wp2_with (first|((with_reducible refine aS 6 ?_);refine ah rfl 25 rfl _ (dB.out _) ?_))
  generalize wr.heap.size=gn at HB ⊢
  go_loopw [7] (fun v wq=>∃ i:Nat,i≤16∧v = .int .i64 i∧∃ os:List Int,os=outs us i∧bO w wq [(w.heap.size,arr .i64 us, 125),(w.heap.size+1,arr .u8 zn, 25),(gn,arr .u8 os, 25)]) (fun v _=>16 - (intOf v).toNat)
  case atStart=>exact ⟨0,abE _,rfl,_,HZ0.out us,HB.out⟩
  case round =>
   obtain ⟨i,hi,rfl,os,hos,hQ⟩:=hrel
   have ol:os.length=32:=by rw [hos];exact dX _ _
   by_cases hlo:i < 16
   ·have q0:=aP (hQ.get 0 rfl) i (by rw [HUN.out.1];omega)
    have q3:=aC (hQ.get 2 rfl) (2 * i)
    have q4:=aC (hQ.get 2 rfl) (2 * i+1)
    have q5:=aP (hQ.get 2 rfl) (2 * i) (by rw [ol];omega)
    have q6:=aP (hQ.get 2 rfl) (2 * i+1) (by rw [ol];omega)
    have b0:=jM HUN.out i
    have st:=fun x hx=>SG us i x hx
    generalize hx:us.getD i 0=x at q0 b0 st
    have st:=st x rfl
    have a0:=andF x
    rw [IntKind.wrap_u8] at a0
    have a1:=andF (x / 256)
    rw [IntKind.wrap_u8] at a1
    have hne:=hQ.ne 0 2 rfl rfl (by decide)
    have hne':=hQ.ne 2 0 rfl rfl (by decide)
    have hb1:=(hQ.cell 2 rfl (2 * i) (.int .u8 (bits .and .i64 x 255 % 256))).cell 2 rfl (2 * i+1) (.int .u8 (bits .and .i64 (x / 256) 255 % 256))
    have e2:((arr .u8 os).setIfInBounds (2 * i) (.int .u8 (bits .and .i64 x 255 % 256))).setIfInBounds (2 * i+1) (.int .u8 (bits .and .i64 (x / 256) 255 % 256))=arr .u8 (outs us (i+1)):=by rw [a0,a1,bq,bq,hos,st]
    have HB1:=abC (hb1.cast (l':=[(w.heap.size,arr .i64 us, 125),(w.heap.size+1,arr .u8 zn, 25),(gn,arr .u8 (outs us (i+1)), 25)]) (by rw [← e2];rfl))
    have m1:(2 * (i:Int)).toNat=2 * i:=by omega
    have m2:(2 * (i:Int)+1).toNat=2 * i+1:=by omega
    clear hb1 e2 hos hQ st ol hx a0 a1
    go_wp2_with fail
    go_roundw
    case rel=>exact ⟨i+1,by omega,by go_num,_,rfl,HB1.out⟩
    case measure=>simp [intOf];omega
   ·obtain rfl:i=16:=by omega
    rw [HOA.out] at hos
    subst hos
    have HQ:=abC hQ
    have HOL:=abC ol
    clear hQ ol
    go_wp2_with (first|((with_reducible refine aS 85 ?_);refine lL rfl rfl (HQ.out.get 2 rfl) rfl (aj _ _) Tryz.underlying25 rfl (bU HOL.out) ?_)|((with_reducible refine aT 2 ?_);refine lS rfl rfl HQ 1 rfl rfl rfl (av _ _ HOL.out dw.out) (bG HOL.out) (ak _ _) ?_;intro w8 gu))
    (try simp only [Exit.inBlock,Exit.then])
    refine bodyPost_ret (results_cell_row rfl _ _ (w.heap.size+1) 25 _ (0,0) _ rfl (gu.out.get 1 rfl) Tryz.underlying25 rfl (bG HOL.out)) rfl ?_
    exact ⟨by rw [Av.out],gu.out.below⟩
end Go.Proofs.YthdgbgleklkaiaaGreatDoor.Rd
