/- The document's most, eighth, pow, inv, same. Condition: as each theorem says. -/

import Derived.Test.YthdgbgleklkaiaaGreatDoorQc10
open Go.Lib renaming hid→abC
open List renaming length_map→abD
open BitVec renaming ofInt→abE
open Nat renaming zero_le→abF,mod_eq_of_lt→abG,mod_lt→abH
set_option linter.unusedSimpArgs false
set_option linter.unusedVariables false
set_option maxRecDepth 100000
set_option maxHeartbeats 16000000
namespace Go.Proofs.YthdgbgleklkaiaaGreatDoor.Rd
open Go.RowKit Lm Fp
def fills (i:Nat):List Int:=tb 32 fun j=>if j < i then 255 else 0
theorem AX:List.replicate 32 0=fills 0:=by decide
theorem AY (i:Nat):(fills i).set i 255=fills (i+1):=by
 rw [fills,iP]
 refine cO _ _ _ fun j _=>?_
 by_cases e:j=i
 ·subst e;rw [if_pos rfl,if_pos (show j < j+1 by omega)]
 ·rw [if_neg e]
  by_cases e3:j < i
  ·rw [if_pos e3,if_pos (show j < i+1 by omega)]
  ·rw [if_neg e3,if_neg (show ¬ j < i+1 by omega)]
theorem most_eq:((fills 32).set 31 127).set 0 235=aW (bD 256 32 (p - 2)):=by decide +kernel
theorem Ng:((fills 32).set 0 254).set 31 15=aW (bD 256 32 eighth):=by decide +kernel
theorem Xe (w:World) :
  Calls Tryz.prog 178 #[.int .i64 21] w fun e w'=>e = .returned (.agg (arr .u8 (aW (bD 256 32 (p - 2)))))∧Below w.heap.size w w':=by
 obtain ⟨zn,hzn,dB,dw⟩:=zN zero_num
 have HZ0:Hid (zn=fills 0):=abC (by rw [hzn];exact AX)
 have bW:=abC (bO.two w (arr .u8 zn) (arr .u8 zn) 25 25)
 obtain ⟨oa,hoa⟩:∃ o,o=aW (bD 256 32 (p - 2)):=⟨_,rfl⟩
 have Av:=abC hoa
 have Rk:Hid (((fills 32).set 31 127).set 0 235=oa):=abC (by rw [hoa];exact most_eq)
 have HOL:Hid (oa.length=32):=abC (by rw [hoa,aG,aK])
 clear hzn hoa
 go_enter Tryz.func178, Tryz.ntmps178
 go_wp2_with (first|((with_reducible refine aS 2 ?_);refine ah rfl 25 rfl _ (dB.out _) ?_)|((with_reducible refine aS 3 ?_);refine ah rfl 25 rfl _ (dB.out _) ?_))
 go_loopw [4] (fun v wr=>∃ i:Nat,i≤32∧v = .int .i64 i∧∃ os:List Int,os=fills i∧bO w wr [(w.heap.size,arr .u8 zn, 25),(w.heap.size+1,arr .u8 os, 25)]) (fun v _=>32 - (intOf v).toNat)
 case atStart=>exact ⟨0,abF _,rfl,_,HZ0.out,bW.out⟩
 clear bW HZ0
 case round =>
 obtain ⟨i,hi,rfl,os,hos,hB⟩:=hrel
 have ol:os.length=32:=by rw [hos];exact dX _ _
 by_cases hlt:i < 32
 ·have q0:=aP (hB.get 1 rfl) i (by rw [ol];exact hlt)
  have q1:=aC (hB.get 1 rfl) i
  have hb1:=hB.cell 1 rfl i (.int .u8 255)
  have e2:(arr .u8 os).setIfInBounds i (.int .u8 255)=arr .u8 (fills (i+1)):=by rw [bq,hos,AY]
  have HB1:=abC (hb1.cast (l':=[(w.heap.size,arr .u8 zn, 25),(w.heap.size+1,arr .u8 (fills (i+1)), 25)]) (by rw [← e2];rfl))
  clear hb1 e2 hos hB ol
  go_wp2_with fail
  go_roundw
  case rel=>exact ⟨i+1,by omega,by go_num,_,rfl,HB1.out⟩
  case measure=>simp [intOf];omega
 ·obtain rfl:i=32:=by omega
  have q0:=aP (hB.get 1 rfl) 31 (by rw [ol];decide)
  have q1:=aC (hB.get 1 rfl) 31
  have q2:=aP (hB.get 1 rfl) 0 (by rw [ol];decide)
  have q3:=aC (hB.get 1 rfl) 0
  have hb1:=(hB.cell 1 rfl 31 (.int .u8 127)).cell 1 rfl 0 (.int .u8 235)
  have e2:((arr .u8 os).setIfInBounds 31 (.int .u8 127)).setIfInBounds 0 (.int .u8 235)=arr .u8 oa:=by rw [bq,bq,hos,Rk.out]
  have HB1:=abC (hb1.cast (l':=[(w.heap.size,arr .u8 zn, 25),(w.heap.size+1,arr .u8 oa, 25)]) (by rw [← e2];rfl))
  clear hb1 e2 hos hB ol
  go_wp2_with (first|((with_reducible refine aS 16 ?_);refine lL rfl rfl (HB1.out.get 1 rfl) rfl (aj _ _) Tryz.underlying25 rfl (bU HOL.out) ?_)|((with_reducible refine aT 2 ?_);refine lS rfl rfl HB1 0 rfl rfl rfl (av _ _ HOL.out dw.out) (bG HOL.out) (ak _ _) ?_;intro w8 gu))
  (try simp only [Exit.inBlock,Exit.then])
  refine bodyPost_ret (results_cell_row rfl _ _ (w.heap.size) 25 _ (0,0) _ rfl (gu.out.get 0 rfl) Tryz.underlying25 rfl (bG HOL.out)) rfl ?_
  exact ⟨by rw [Av.out],gu.out.below⟩
theorem Nh (w:World) :
  Calls Tryz.prog 195 #[] w fun e w'=>e = .returned (.agg (arr .u8 (aW (bD 256 32 (eighth)))))∧Below w.heap.size w w':=by
 obtain ⟨zn,hzn,dB,dw⟩:=zN zero_num
 have HZ0:Hid (zn=fills 0):=abC (by rw [hzn];exact AX)
 have bW:=abC (bO.two w (arr .u8 zn) (arr .u8 zn) 25 25)
 obtain ⟨oa,hoa⟩:∃ o,o=aW (bD 256 32 (eighth)):=⟨_,rfl⟩
 have Av:=abC hoa
 have Rk:Hid (((fills 32).set 0 254).set 31 15=oa):=abC (by rw [hoa];exact Ng)
 have HOL:Hid (oa.length=32):=abC (by rw [hoa,aG,aK])
 clear hzn hoa
 go_enter Tryz.func195, Tryz.ntmps195
 go_wp2_with (first|((with_reducible refine aS 0 ?_);refine ah rfl 25 rfl _ (dB.out _) ?_)|((with_reducible refine aS 1 ?_);refine ah rfl 25 rfl _ (dB.out _) ?_))
 go_loopw [2] (fun v wr=>∃ i:Nat,i≤32∧v = .int .i64 i∧∃ os:List Int,os=fills i∧bO w wr [(w.heap.size,arr .u8 zn, 25),(w.heap.size+1,arr .u8 os, 25)]) (fun v _=>32 - (intOf v).toNat)
 case atStart=>exact ⟨0,abF _,rfl,_,HZ0.out,bW.out⟩
 clear bW HZ0
 case round =>
 obtain ⟨i,hi,rfl,os,hos,hB⟩:=hrel
 have ol:os.length=32:=by rw [hos];exact dX _ _
 by_cases hlt:i < 32
 ·have q0:=aP (hB.get 1 rfl) i (by rw [ol];exact hlt)
  have q1:=aC (hB.get 1 rfl) i
  have hb1:=hB.cell 1 rfl i (.int .u8 255)
  have e2:(arr .u8 os).setIfInBounds i (.int .u8 255)=arr .u8 (fills (i+1)):=by rw [bq,hos,AY]
  have HB1:=abC (hb1.cast (l':=[(w.heap.size,arr .u8 zn, 25),(w.heap.size+1,arr .u8 (fills (i+1)), 25)]) (by rw [← e2];rfl))
  clear hb1 e2 hos hB ol
  go_wp2_with fail
  go_roundw
  case rel=>exact ⟨i+1,by omega,by go_num,_,rfl,HB1.out⟩
  case measure=>simp [intOf];omega
 ·obtain rfl:i=32:=by omega
  have q0:=aP (hB.get 1 rfl) 0 (by rw [ol];decide)
  have q1:=aC (hB.get 1 rfl) 0
  have q2:=aP (hB.get 1 rfl) 31 (by rw [ol];decide)
  have q3:=aC (hB.get 1 rfl) 31
  have hb1:=(hB.cell 1 rfl 0 (.int .u8 254)).cell 1 rfl 31 (.int .u8 15)
  have e2:((arr .u8 os).setIfInBounds 0 (.int .u8 254)).setIfInBounds 31 (.int .u8 15)=arr .u8 oa:=by rw [bq,bq,hos,Rk.out]
  have HB1:=abC (hb1.cast (l':=[(w.heap.size,arr .u8 zn, 25),(w.heap.size+1,arr .u8 oa, 25)]) (by rw [← e2];rfl))
  clear hb1 e2 hos hB ol
  go_wp2_with (first|((with_reducible refine aS 11 ?_);refine lL rfl rfl (HB1.out.get 1 rfl) rfl (aj _ _) Tryz.underlying25 rfl (bU HOL.out) ?_)|((with_reducible refine aT 0 ?_);refine lS rfl rfl HB1 0 rfl rfl rfl (av _ _ HOL.out dw.out) (bG HOL.out) (ak _ _) ?_;intro w8 gu))
  (try simp only [Exit.inBlock,Exit.then])
  refine bodyPost_ret (results_cell_row rfl _ _ (w.heap.size) 25 _ (0,0) _ rfl (gu.out.get 0 rfl) Tryz.underlying25 rfl (bG HOL.out)) rfl ?_
  exact ⟨by rw [Av.out],gu.out.below⟩
theorem kZ {T:Nat→Prop} {a b:World} {g o:Nat} {xs:List Value} (h:a.rangeAt g o xs) (k:Kept T a b) (hT:¬ T g):b.rangeAt g o xs:=fun j v hj=>k.lV (h j v hj) hT
theorem num_beq {a b:Nat} (ha:a < p) (hb:b < p):(aW (bD 256 32 a) == aW (bD 256 32 b))=decide (a=b):=by
 have hp:p < 256 ^ 32:=by decide +kernel
 by_cases e:a=b
 ·subst e;simp
 ·rw [decide_eq_false e,beq_eq_false_iff_ne]
  intro h
  have h1:=fA 256 32 a
  have h2:=fA 256 32 b
  have h3:bD 256 32 a=bD 256 32 b:=by
   have:=congrArg (List.map Int.toNat) h
   have e:∀ l:List Nat,(aW l).map Int.toNat=l:=fun l=>by rw [aW,List.map_map];exact List.map_id l
   rwa [e,e] at this
  rw [h3,h2,abG (by omega),abG (by omega)] at h1
  exact e h1.symm
theorem F6 {P:Program} {o:Oper} {ev:Operand→Value} {w:World} (t ty:TypeId) (e:TypeId) (x y:Operand) (ho:o.op = .binOp .eql t x y ty) (n:Nat) (k k':IntKind)
  (ht:P.underlying t=some (.array n e)) (he:P.underlying e=some (.int k')) (hsz:∀ w,(sizeOf e).run P w = .ok 1 w) (hm:P.eqGuardType P.depth t=false)
  (xs ys:List Int) (hx:ev x = .agg (arr k xs)) (hy:ev y = .agg (arr k ys)) (lx:xs.length=n) (ly:ys.length=n) (b:Bool) (hb:(xs == ys)=b) :
  (execOp ev o).run P w = .ok (.value (.bool b)) w:=by
 simp only [execOp,ho,hx,hy,Sem.run_bind,run_eqGuard_agg w .eql t x y _ _ hm,Result.andThen_ok,wR w t e n k k' ht he hsz xs ys lx ly,hb]
 rfl
theorem JN (v k:Nat):v / 256 ^ (k / 8) % 256 / 2 ^ (k % 8) % 2=v / 2 ^ k % 2:=by
 have e:2 ^ k=256 ^ (k / 8) * 2 ^ (k % 8):=by
  rw [show (256:Nat)=2 ^ 8 by rfl,← Nat.pow_mul,← Nat.pow_add]
  congr 1
  omega
 rw [e,← Nat.div_div_eq_div_mul]
 generalize v / 256 ^ (k / 8)=y
 have h8:k % 8 < 8:=abH _ (by decide)
 generalize k % 8=s at h8 ⊢
 have hB:(256:Nat)=2 ^ s * (2 * 2 ^ (7 - s)):=by
  rw [show (256:Nat)=2 ^ 8 by rfl,← Nat.pow_succ',← Nat.pow_add]
  congr 1
  omega
 rw [hB,Nat.mod_mul_right_div_self,Nat.mod_mul_right_mod]
theorem ZY (y:Nat) (h:y < 256):bits .and .u8 (y:Int) 1=((y % 2:Nat):Int):=by
 have e:y &&& 1=y % 2:=Nat.and_two_pow_sub_one_eq_mod y 1
 have h1:(abE 8 (y:Int)).toNat=y:=by rw [BitVec.ofInt_natCast,BitVec.toNat_ofNat];exact abG (by omega)
 have h2:(abE 8 (1:Int)).toNat=1:=by decide
 show IntKind.u8.wrap ((abE 8 (y:Int) &&& abE 8 (1:Int)).toNat:Int)=_
 rw [BitVec.toNat_and,h1,h2,e,IntKind.wrap_u8]
 omega
theorem Bf (es:List Int) (v k:Nat) (he:es=aW (bD 256 32 v)) (hk:k < 256):∃ y:Nat,es.getD (k / 8) 0=y∧y < 256∧bits .and .u8 ((y:Int) / 2 ^ (k % 8)) 1=((v / 2 ^ k % 2:Nat):Int):=by
 refine ⟨v / 256 ^ (k / 8) % 256,by rw [he,bH,dn _ _ _ _ (by omega)],abH _ (by decide),?_⟩
 have e1:((v / 256 ^ (k / 8) % 256:Nat):Int) / 2 ^ (k % 8)=((v / 256 ^ (k / 8) % 256 / 2 ^ (k % 8):Nat):Int):=by
  rw [Int.natCast_ediv,Int.natCast_pow];rfl
 rw [e1,ZY _ (Nat.lt_of_le_of_lt (Nat.div_le_self _ _) (abH _ (by decide))),JN]
theorem Qa (xs:List Int) (a v:Nat) (w:World) (hx:El xs a) :
  Calls Tryz.prog 177 #[.agg (arr .i64 xs), .agg (arr .u8 (aW (bD 256 32 v)))] w fun e w'=>∃ zs,e = .returned (.agg (arr .i64 zs))∧El zs (iI a v 256)∧Below w.heap.size w w':=by
 obtain ⟨ze,iO,dO,dG⟩:=zN gM
 obtain ⟨es,hes⟩:∃ x,x=aW (bD 256 32 v):=⟨_,rfl⟩
 rw [← hes]
 have HES:=abC hes
 have J7:Hid (es.length=32):=abC (by rw [hes,aG,aK])
 have HX:=abC hx
 have jc:=abC hx.1
 have bW:=abC (bO.three w (arr .i64 xs) (arr .u8 es) (arr .i64 ze) 125 25 125)
 clear iO hes hx
 go_enter Tryz.func177, Tryz.ntmps177
 go_wp2_with (first|((with_reducible refine aS 4 ?_);refine ah rfl 125 rfl _ (dO.out _) ?_)|((with_reducible show Calls _ _ #[.int _ _] _ _);go_at_call 134; refine (gq 1 _ (by decide)).mono ?_;rintro e w1 ⟨z1,rfl,h1,hb1⟩;have HZ1:=abC h1;have oH:=abC h1.1;have HB1:=abC (bW.out.kept hb1);clear h1 hb1)|((with_reducible refine aS 5 ?_);refine ah rfl 125 rfl _ (dO.out _) ?_;have HB2:=abC (HB1.out.alloc (arr .i64 ze) 125);generalize w1.heap.size=gx at HB2 ⊢)|((with_reducible refine aT 5 ?_);refine lS rfl rfl HB2 3 rfl rfl rfl (av _ _ oH.out dG.out) (dx oH.out) (ak _ _) ?_;intro w3 HB3))
 go_loopw [6] (fun v' wr=>∃ n:Nat,n≤256∧v' = .int .i64 (255 - (n:Int))∧∃ cs:List Int,El cs (iI a v n)∧bO w wr [(w.heap.size,arr .i64 xs, 125),(w.heap.size+1,arr .u8 es, 25),(w.heap.size+1+1,arr .i64 ze, 125),(gx,arr .i64 cs, 125)]) (fun v' _=>(intOf v'+1).toNat)
 case atStart=>exact ⟨0,abF _,rfl,_,HZ1.out,HB3.out⟩
 clear bW HB1 HB2 HB3
 case round =>
 obtain ⟨n,hn,rfl,cs,hcs,hB⟩:=hrel
 by_cases hlt:n < 256
 ·obtain ⟨i,hi⟩:∃ i:Nat,i+n=255:=⟨255 - n,by omega⟩
  have hz:(255:Int) - (n:Int)=(i:Int):=by omega
  have hi2:i < 256:=by omega
  obtain ⟨y,hy,hy2,hbit⟩:=Bf es v i HES.out hi2
  have q0:=aP (hB.get 1 rfl) (i / 8) (by rw [J7.out];omega)
  rw [hy] at q0
  have hpn:=WG a v n
  rw [show 255 - n=i by omega] at hpn
  rw [hz]
  have J8:=abC hcs
  have mF:=abC hcs.1
  have HB:=abC hB
  have HI:=abC hi
  have HY:=abC hy
  clear hcs hB hy hz hi
  have q9:0≤(i:Int):=by omega
  rcases (show v / 2 ^ i % 2=0∨v / 2 ^ i % 2=1 by omega) with hb|hb
  ·rw [hb] at hbit
   rw [if_neg (by omega)] at hpn
   have hbit0:bits .and .u8 ((y:Int) / 2 ^ (i % 8)) 1=0:=hbit
   have Kh:=abC hpn
   clear hpn hb hbit
   go_wp2_with (first|((with_reducible refine aS 12 ?_);refine lL rfl rfl (HB.out.get 3 rfl) rfl (aj _ _) Tryz.underlying125 rfl (bK mF.out) ?_)|((with_reducible refine aS 13 ?_);refine lL rfl rfl (HB.out.get 3 rfl) rfl (aj _ _) Tryz.underlying125 rfl (bK mF.out) ?_)|((with_reducible show Calls _ _ #[.agg (arr _ cs), .agg (arr _ cs)] _ _);go_at_call 132; refine (bM _ _ _ _ _ J8.out J8.out).mono ?_;rintro e w5 ⟨z5,rfl,h5,hb5⟩;have HZ5:=abC h5;have Om:=abC h5.1;have gy:=abC (HB.out.kept hb5);clear h5 hb5)|((with_reducible refine aT 5 ?_);refine au rfl 125 _ _ rfl (gx) _ _ 125 (gy.out.get 3 rfl) rfl rfl (av _ _ Om.out mF.out) (dx Om.out) (ak _ _) ?_;intro w6 hb6 LD hz6;have mH:=abC (gy.out.put 3 rfl LD hb6);have q1:=aP (mH.out.get 1 rfl) (i / 8) (by rw [J7.out];omega);rw [HY.out] at q1;clear hb6 LD hz6))
   go_roundw
   case rel =>
    have e:=HI.out
    exact ⟨n+1,by omega,by congr 1;omega,_,by rw [Kh.out];exact HZ5.out,mH.out⟩
   case measure=>simp [intOf]
  ·rw [if_pos hb] at hpn
   rw [hb] at hbit
   have hbit1:bits .and .u8 ((y:Int) / 2 ^ (i % 8)) 1=1:=hbit
   have Kh:=abC hpn
   clear hpn hb hbit
   go_wp2_with (first|((with_reducible refine aS 12 ?_);refine lL rfl rfl (HB.out.get 3 rfl) rfl (aj _ _) Tryz.underlying125 rfl (bK mF.out) ?_)|((with_reducible refine aS 13 ?_);refine lL rfl rfl (HB.out.get 3 rfl) rfl (aj _ _) Tryz.underlying125 rfl (bK mF.out) ?_)|((with_reducible show Calls _ _ #[.agg (arr _ cs), .agg (arr _ cs)] _ _);go_at_call 132; refine (bM _ _ _ _ _ J8.out J8.out).mono ?_;rintro e w5 ⟨z5,rfl,h5,hb5⟩;have HZ5:=abC h5;have Om:=abC h5.1;have gy:=abC (HB.out.kept hb5);clear h5 hb5)|(with_reducible refine aT 5 (x:=(Operand.tmp 14)) ?_);((with_reducible refine aT 5 ?_);refine au rfl 125 _ _ rfl (gx) _ _ 125 (gy.out.get 3 rfl) rfl rfl (av _ _ Om.out mF.out) (dx Om.out) (ak _ _) ?_;intro w6 hb6 LD hz6;have mH:=abC (gy.out.put 3 rfl LD hb6);have q1:=aP (mH.out.get 1 rfl) (i / 8) (by rw [J7.out];omega);rw [HY.out] at q1;clear hb6 LD hz6)|((with_reducible refine aS 25 ?_);refine lL rfl rfl (mH.out.get 3 rfl) rfl (aj _ _) Tryz.underlying125 rfl (bK Om.out) ?_)|((with_reducible refine aS 26 ?_);refine lL rfl rfl (mH.out.get 0 rfl) rfl (aj _ _) Tryz.underlying125 rfl (bK jc.out) ?_)|((with_reducible show Calls _ _ #[.agg (arr _ z5), .agg (arr _ xs)] _ _);go_at_call 132; refine (bM _ _ _ _ _ HZ5.out HX.out).mono ?_;rintro e w7 ⟨z7,rfl,h7,jh⟩;have HZ7:=abC h7;have HL7:=abC h7.1;have fC:=abC (mH.out.kept jh);clear h7 jh)|(with_reducible refine aT 5 (x:=(Operand.tmp 27)) ?_);((with_reducible refine aT 5 ?_);refine lS rfl rfl fC 3 rfl rfl rfl (av _ _ HL7.out Om.out) (dx HL7.out) (ak _ _) ?_;intro w8 gu))
   go_roundw
   case rel =>
    have e:=HI.out
    exact ⟨n+1,by omega,by congr 1;omega,_,by rw [Kh.out];exact HZ7.out,gu.out⟩
   case measure=>simp [intOf]
 ·obtain rfl:n=256:=by omega
  have hz:(255:Int) - ((256:Nat):Int) = -1:=by omega
  rw [hz]
  have J8:=abC hcs
  have mF:=abC hcs.1
  have HB:=abC hB
  clear hcs hB hz
  go_wp2_with (first|((with_reducible refine aS 28 ?_);refine lL rfl rfl (HB.out.get 3 rfl) rfl (aj _ _) Tryz.underlying125 rfl (bK mF.out) ?_)|((with_reducible refine aT 4 ?_);refine lS rfl rfl HB 2 rfl rfl rfl (av _ _ mF.out dG.out) (dx mF.out) (ak _ _) ?_;intro w8 gu))
  (try simp only [Exit.inBlock,Exit.then])
  refine bodyPost_ret (results_cell_row rfl _ _ (w.heap.size+1+1) 125 _ (0,0) _ rfl (gu.out.get 2 rfl) Tryz.underlying125 rfl (dx mF.out)) rfl ?_
  exact ⟨_,rfl,J8.out,gu.out.below⟩
theorem FU (xs:List Int) (a:Nat) (w:World) (hx:El xs a) :
  Calls Tryz.prog 130 #[.agg (arr .i64 xs)] w fun e w'=>∃ zs,e = .returned (.agg (arr .i64 zs))∧El zs (finv a)∧Below w.heap.size w w':=by
 have hm:=Xe
 have hp:=fun w=>Qa xs a (p - 2) w hx
 obtain ⟨es,hes⟩:∃ x,x=aW (bD 256 32 (p - 2)):=⟨_,rfl⟩
 rw [← hes] at hm hp
 obtain ⟨ze,iO,dO,dG⟩:=zN gM
 have HM:=abC hm
 have HP:=abC hp
 have jc:=abC hx.1
 have bW:=abC (bO.two w (arr .i64 xs) (arr .i64 ze) 125 125)
 clear iO hes hx hm hp
 go_enter Tryz.func130, Tryz.ntmps130
 go_upto_region 1 with (first|((with_reducible refine aS 2 ?_);refine ah rfl 125 rfl _ (dO.out _) ?_))
 generalize ((w.alloc (.cells (arr .i64 xs) 125)).alloc (.cells (arr .i64 ze) 125))=wb at bW ⊢
 have d9:=abC ((Kept.refl (fun x=>x=w.heap.size+1) wb).drew)
 have eF:=abC (bW.out.drew)
 refine wp_region_held_drew (S:=(fun w'=>Kept (fun x=>x=w.heap.size+1) wb w')) (by kernel_rfl) (d9.out) (fun hHeld=>?_)
 generalize wb.drew=wd at d9 eF hHeld ⊢
 refine' wpAnyH_take (i:=0) (oi:=(⟨some 3,_,_,_,_,none⟩:Oper)) (v:=_) rfl (by kernel_rfl) (by kernel_rfl) (by kernel_rfl) (fun _ _ _ h=>h) (yieldsIf_load_mid (by rfl) _ _ rfl _ _ rfl (xs.map (Value.int .i64)) _ ?Y4 Tryz.underlying125 rfl (by rw [abD];exact bK jc.out)) (by assumption) ?qw
 case Y4=>(intro w hSw;(try dsimp only at hSw);exact aO (hSw.blk (bW.out.get 0 rfl) (bW.out.ne 0 1 rfl rfl (by decide))) 0 _ (by rw [abD];exact aj _ _))
 (try simp only [Act.put,sA,sZ,sS])
 refine pR 1 ⟨some 4,_,_,_,_,none⟩ (fun K hK=>?_)
 go_simp
 go_at_call 178
 refine (HM.out _).mono ?_
 rintro e Vt ⟨rfl,AO⟩
 have Cc:=abC (eF.out.kept AO)
 have BL:=abC (d9.out.trans (Kept.of_below AO))
 clear AO
 (try dsimp only)
 refine hK.out _ _ (BL.out) (fun hHeld=>?_)
 clear hK K
 (try simp only [Act.put,sA,sZ,sS])
 refine pR 2 ⟨some 5,_,_,_,_,none⟩ (fun K hK=>?_)
 go_simp
 go_at_call 177
 refine (HP.out _).mono ?_
 rintro e Vs ⟨z103,rfl,M8,AL⟩
 have aaR:=abC M8
 have Eo:=abC M8.1
 clear M8
 have uJ:=abC (Cc.out.kept AL)
 have Ep:=abC (BL.out.trans (Kept.of_below AL))
 clear AL
 (try dsimp only)
 refine hK.out _ _ (Ep.out) (fun hHeld=>?_)
 clear hK K
 (try simp only [Act.put,sA,sZ,sS])
 refine pR 3 ⟨none,_,_,_,_,none⟩ (fun K hK=>?_)
 refine aI rfl 125 (.tmp 2) (.tmp 5) rfl (w.heap.size+1) _ _ _ (uJ.out.get 1 rfl) rfl rfl (av _ _ Eo.out dG.out) (dx Eo.out) (ak _ _) ?_
 intro w104 hb104 Yf hz104
 have uI:=abC (uJ.out.put 1 rfl Yf hb104)
 have J6:=abC (Ep.out.trans Yf)
 clear hb104 Yf hz104
 refine hK.out _ _ (J6.out) (fun hHeld=>?_)
 clear hK K
 (try simp only [Act.put])
 refine wpAnyH_done (by kernel_rfl) ?_ _
 have sH:=uI
 have HLF:=Eo
 have HZF:=aaR
 (try simp only [Exit.then])
 go_wp2_with fail
 refine bodyPost_ret (results_cell_row rfl _ _ (w.heap.size+1) 125 _ (0,0) _ rfl (sH.out.get 1 rfl) Tryz.underlying125 rfl (dx HLF.out)) rfl ?_
 exact ⟨_,rfl,HZF.out,sH.out.below⟩
theorem kY (xs ys:List Int) (a b:Nat) (w:World) (hx:El xs a) (hy:El ys b) :
  Calls Tryz.prog 196 #[.agg (arr .i64 xs), .agg (arr .i64 ys)] w fun e w'=>e = .returned (.bool (decide (a=b)))∧Below w.heap.size w w':=by
 have HX:=abC hx
 have HY:=abC hy
 have jc:=abC hx.1
 have HYL:=abC hy.1
 have hoa:=fun w=>nQ xs a w hx
 have Ka:=fun w=>nQ ys b w hy
 have heq:(aW (bD 256 32 a) == aW (bD 256 32 b))=decide (a=b):=num_beq hx.lt hy.lt
 obtain ⟨oa,ha⟩:∃ o,o=aW (bD 256 32 a):=⟨_,rfl⟩
 obtain ⟨ob,hb⟩:∃ o,o=aW (bD 256 32 b):=⟨_,rfl⟩
 rw [← ha] at hoa heq
 rw [← hb] at Ka heq
 have HOA:=abC hoa
 have HOB:=abC Ka
 have HEQ:=abC heq
 have HAL:Hid (oa.length=32):=abC (by rw [ha,aG,aK])
 have qM:Hid (ob.length=32):=abC (by rw [hb,aG,aK])
 have bW:=abC (bO.two w (arr .i64 xs) (arr .i64 ys) 125 125)
 clear hx hy hoa Ka heq ha hb
 go_enter Tryz.func196, Tryz.ntmps196
 go_upto_region 1 with fail
 generalize ((w.alloc (.cells (arr .i64 xs) 125)).alloc (.cells (arr .i64 ys) 125))=wb at bW ⊢
 have d9:=abC ((Kept.refl (fun _=>False) wb).drew)
 have eF:=abC (bW.out.drew)
 refine wp_region_held_drew (S:=(fun w'=>Kept (fun _=>False) wb w')) (by kernel_rfl) (d9.out) (fun hHeld=>?_)
 generalize wb.drew=wd at d9 eF hHeld ⊢
 refine' wpAnyH_take (i:=0) (oi:=(⟨some 5,_,_,_,_,none⟩:Oper)) (v:=_) rfl (by kernel_rfl) (by kernel_rfl) (by kernel_rfl) (fun _ _ _ h=>h) (yieldsIf_load_mid (by rfl) _ _ rfl _ _ rfl (xs.map (Value.int .i64)) _ ?hS105 Tryz.underlying125 rfl (by rw [abD];exact bK jc.out)) (by assumption) ?Fg
 case hS105=>(intro w hSw;(try dsimp only at hSw);exact aO (hSw.blk (bW.out.get 0 rfl) (fun e=>e.elim)) 0 _ (by rw [abD];exact aj _ _))
 (try simp only [Act.put,sA,sZ,sS])
 refine' wpAnyH_take (i:=2) (oi:=(⟨some 7,_,_,_,_,none⟩:Oper)) (v:=_) rfl (by kernel_rfl) (by kernel_rfl) (by kernel_rfl) (fun _ _ _ h=>h) (yieldsIf_load_mid (by rfl) _ _ rfl _ _ rfl (ys.map (Value.int .i64)) _ ?hS106 Tryz.underlying125 rfl (by rw [abD];exact bK HYL.out)) (by assumption) ?Fe
 case hS106=>(intro w hSw;(try dsimp only at hSw);exact aO (hSw.blk (bW.out.get 1 rfl) (fun e=>e.elim)) 0 _ (by rw [abD];exact aj _ _))
 (try simp only [Act.put,sA,sZ,sS])
 refine pR 1 ⟨some 6,_,_,_,_,none⟩ (fun K hK=>?_)
 go_simp
 go_at_call 131
 refine (HOA.out _).mono ?_
 rintro e w107 ⟨rfl,AJ⟩
 have BZ:=abC (eF.out.kept AJ)
 have J5:=abC (d9.out.trans (Kept.of_below AJ))
 clear AJ
 (try dsimp only)
 refine hK.out _ _ (J5.out) (fun hHeld=>?_)
 clear hK K
 (try simp only [Act.put,sA,sZ,sS])
 refine pR 3 ⟨some 8,_,_,_,_,none⟩ (fun K hK=>?_)
 go_simp
 go_at_call 131
 refine (HOB.out _).mono ?_
 rintro e w108 ⟨rfl,DK⟩
 have xC:=abC (BZ.out.kept DK)
 have aaZ:=abC (J5.out.trans (Kept.of_below DK))
 clear DK
 (try dsimp only)
 refine hK.out _ _ (aaZ.out) (fun hHeld=>?_)
 clear hK K
 (try simp only [Act.put,sA,sZ,sS])
 refine wpAnyH_take (i:=4) (oi:=(⟨some 9,_,_,_,_,none⟩:Oper)) (v:=(.bool (decide (a=b)))) rfl (by kernel_rfl) (by kernel_rfl) (by kernel_rfl) (fun _ _ _ h=>h) (Or.inl ⟨by rfl,?Ay⟩) (by assumption) ?Fb
 case Ay=>(intro w hSw;(try dsimp only at hSw);exact F6 25 _ _ (.tmp 6) (.tmp 8) rfl 32 .u8 .u8 Tryz.underlying25 Tryz.underlying5 (fun w=>by kernel_rfl) (by kernel_rfl) oa ob rfl rfl HAL.out qM.out _ HEQ.out)
 (try simp only [Act.put,sA,sZ,sS])
 refine pT 5 ⟨some 4,_,_,_,_,none⟩ (?v110) ?_
 (try simp only [Act.put,sA,sZ,sS])
 refine wpAnyH_done (by kernel_rfl) ?_ _
 have sH:=xC
 (try simp only [Exit.then])
 go_wp2_with fail
 go_ret
 exact ⟨rfl,sH.out.below⟩
end Go.Proofs.YthdgbgleklkaiaaGreatDoor.Rd
