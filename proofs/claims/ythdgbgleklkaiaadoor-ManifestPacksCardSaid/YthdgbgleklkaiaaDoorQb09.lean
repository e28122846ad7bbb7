/- The document's most, eighth, pow, inv, same. Condition: as each theorem says. -/

import Derived.Test.YthdgbgleklkaiaaDoorQb03
import Derived.Test.YthdgbgleklkaiaaDoorQb08
open Go.Lib renaming hid→acD
open List renaming length_map→acE,replicate→acF
open BitVec renaming ofInt→acG
open Nat renaming zero_le→acH,mod_eq_of_lt→acI,mod_lt→acJ
set_option linter.unusedSimpArgs false
set_option linter.unusedVariables false
set_option maxRecDepth 100000
set_option maxHeartbeats 16000000
namespace Go.Proofs.YthdgbgleklkaiaaDoor.Rd
open Go.RowKit Lm Fp
def fills (i:Nat):List Int:=tb 32 fun j=>if j < i then 255 else 0
theorem Az:acF 32 0=fills 0:=by decide
theorem AA (i:Nat):(fills i).set i 255=fills (i+1):=by
 rw [fills,iN]
 refine bZ _ _ _ fun j _=>?_
 by_cases e:j=i
 ·subst e;rw [if_pos rfl,if_pos (show j < j+1 by omega)]
 ·rw [if_neg e]
  by_cases e3:j < i
  ·rw [if_pos e3,if_pos (show j < i+1 by omega)]
  ·rw [if_neg e3,if_neg (show ¬ j < i+1 by omega)]
theorem most_eq:((fills 32).set 31 127).set 0 235=aW (bD 256 32 (p - 2)):=by decide +kernel
theorem MR:((fills 32).set 0 254).set 31 15=aW (bD 256 32 eighth):=by decide +kernel
theorem WE (w:World) :
  Calls Tryd.prog 87 #[.int .i64 21] w fun e w'=>e = .returned (.agg (arr .u8 (aW (bD 256 32 (p - 2)))))∧Below w.heap.size w w':=by
 obtain ⟨zn,hzn⟩:∃ zs:List Int,zs=acF 32 0:=⟨_,rfl⟩
 have dA:Hid (∀ w,(zeroValue 23).run Tryd.prog w = .ok (.agg (arr .u8 zn)) w):=acD (by intro w;rw [hzn];exact zero_num w)
 have cK:Hid (zn.length=32):=acD (by rw [hzn];rfl)
 have HZ0:Hid (zn=fills 0):=acD (by rw [hzn];exact Az)
 have bQ:=acD (bM.two w (arr .u8 zn) (arr .u8 zn) 23 23)
 obtain ⟨oa,hoa⟩:∃ o,o=aW (bD 256 32 (p - 2)):=⟨_,rfl⟩
 have HOE:=acD hoa
 have HFE:Hid (((fills 32).set 31 127).set 0 235=oa):=acD (by rw [hoa];exact most_eq)
 have HOL:Hid (oa.length=32):=acD (by rw [hoa,aJ,aK])
 clear hzn hoa
 go_enter Tryd.func87, Tryd.ntmps87
 go_wp2_with (first|((with_reducible refine aS 2 ?_);refine aj rfl 23 rfl _ (dA.out _) ?_)|((with_reducible refine aS 3 ?_);refine aj rfl 23 rfl _ (dA.out _) ?_))
 go_loopw [4] (fun v wr=>∃ i:Nat,i≤32∧v = .int .i64 i∧∃ os:List Int,os=fills i∧bM w wr [(w.heap.size,arr .u8 zn, 23),(w.heap.size+1,arr .u8 os, 23)]) (fun v _=>32 - (intOf v).toNat)
 case atStart=>exact ⟨0,acH _,rfl,_,HZ0.out,bQ.out⟩
 clear bQ HZ0
 case round =>
 obtain ⟨i,hi,rfl,os,hos,hB⟩:=hrel
 have ol:os.length=32:=by rw [hos];exact dU _ _
 by_cases hlt:i < 32
 ·have q0:=aP (hB.get 1 rfl) i (by rw [ol];exact hlt)
  have q1:=aC (hB.get 1 rfl) i
  have hb1:=hB.cell 1 rfl i (.int .u8 255)
  have e2:(arr .u8 os).setIfInBounds i (.int .u8 255)=arr .u8 (fills (i+1)):=by rw [bf,hos,AA]
  have HB1:=acD (hb1.cast (l':=[(w.heap.size,arr .u8 zn, 23),(w.heap.size+1,arr .u8 (fills (i+1)), 23)]) (by rw [← e2];rfl))
  clear hb1 e2 hos hB ol
  go_wp2_with fail
  go_roundw
  case rel=>exact ⟨i+1,by omega,by go_num,_,rfl,HB1.out⟩
  case measure=>simp [intOf];omega
 ·obtain rfl:i=32:=by omega
  have q0:=aP (hB.get 1 rfl) 31 (by rw [ol];decide)
  have q1:=aC (hB.get 1 rfl) 31
  have q2:=aP (hB.get 1 rfl) 0 (by rw [ol];decide)
  have q3:=aC (hB.get 1 rfl) 0
  have hb1:=(hB.cell 1 rfl 31 (.int .u8 127)).cell 1 rfl 0 (.int .u8 235)
  have e2:((arr .u8 os).setIfInBounds 31 (.int .u8 127)).setIfInBounds 0 (.int .u8 235)=arr .u8 oa:=by rw [bf,bf,hos,HFE.out]
  have HB1:=acD (hb1.cast (l':=[(w.heap.size,arr .u8 zn, 23),(w.heap.size+1,arr .u8 oa, 23)]) (by rw [← e2];rfl))
  clear hb1 e2 hos hB ol
  go_wp2_with (first|((with_reducible refine aS 16 ?_);refine lL rfl rfl (HB1.out.get 1 rfl) rfl (au _ _) Tryd.underlying23 rfl (bU HOL.out) ?_)|((with_reducible refine aT 2 ?_);refine lS rfl rfl HB1 0 rfl rfl rfl (ay _ _ HOL.out cK.out) (bE HOL.out) (av _ _) ?_;intro w8 fC))
  (try simp only [Exit.inBlock,Exit.then])
  refine bodyPost_ret (results_cell_row rfl _ _ (w.heap.size) 23 _ (0,0) _ rfl (fC.out.get 0 rfl) Tryd.underlying23 rfl (bE HOL.out)) rfl ?_
  exact ⟨by rw [HOE.out],fC.out.below⟩
theorem MU (w:World) :
  Calls Tryd.prog 94 #[] w fun e w'=>e = .returned (.agg (arr .u8 (aW (bD 256 32 (eighth)))))∧Below w.heap.size w w':=by
 obtain ⟨zn,hzn⟩:∃ zs:List Int,zs=acF 32 0:=⟨_,rfl⟩
 have dA:Hid (∀ w,(zeroValue 23).run Tryd.prog w = .ok (.agg (arr .u8 zn)) w):=acD (by intro w;rw [hzn];exact zero_num w)
 have cK:Hid (zn.length=32):=acD (by rw [hzn];rfl)
 have HZ0:Hid (zn=fills 0):=acD (by rw [hzn];exact Az)
 have bQ:=acD (bM.two w (arr .u8 zn) (arr .u8 zn) 23 23)
 obtain ⟨oa,hoa⟩:∃ o,o=aW (bD 256 32 (eighth)):=⟨_,rfl⟩
 have HOE:=acD hoa
 have HFE:Hid (((fills 32).set 0 254).set 31 15=oa):=acD (by rw [hoa];exact MR)
 have HOL:Hid (oa.length=32):=acD (by rw [hoa,aJ,aK])
 clear hzn hoa
 go_enter Tryd.func94, Tryd.ntmps94
 go_wp2_with (first|((with_reducible refine aS 0 ?_);refine aj rfl 23 rfl _ (dA.out _) ?_)|((with_reducible refine aS 1 ?_);refine aj rfl 23 rfl _ (dA.out _) ?_))
 go_loopw [2] (fun v wr=>∃ i:Nat,i≤32∧v = .int .i64 i∧∃ os:List Int,os=fills i∧bM w wr [(w.heap.size,arr .u8 zn, 23),(w.heap.size+1,arr .u8 os, 23)]) (fun v _=>32 - (intOf v).toNat)
 case atStart=>exact ⟨0,acH _,rfl,_,HZ0.out,bQ.out⟩
 clear bQ HZ0
 case round =>
 obtain ⟨i,hi,rfl,os,hos,hB⟩:=hrel
 have ol:os.length=32:=by rw [hos];exact dU _ _
 by_cases hlt:i < 32
 ·have q0:=aP (hB.get 1 rfl) i (by rw [ol];exact hlt)
  have q1:=aC (hB.get 1 rfl) i
  have hb1:=hB.cell 1 rfl i (.int .u8 255)
  have e2:(arr .u8 os).setIfInBounds i (.int .u8 255)=arr .u8 (fills (i+1)):=by rw [bf,hos,AA]
  have HB1:=acD (hb1.cast (l':=[(w.heap.size,arr .u8 zn, 23),(w.heap.size+1,arr .u8 (fills (i+1)), 23)]) (by rw [← e2];rfl))
  clear hb1 e2 hos hB ol
  go_wp2_with fail
  go_roundw
  case rel=>exact ⟨i+1,by omega,by go_num,_,rfl,HB1.out⟩
  case measure=>simp [intOf];omega
 ·obtain rfl:i=32:=by omega
  have q0:=aP (hB.get 1 rfl) 0 (by rw [ol];decide)
  have q1:=aC (hB.get 1 rfl) 0
  have q2:=aP (hB.get 1 rfl) 31 (by rw [ol];decide)
  have q3:=aC (hB.get 1 rfl) 31
  have hb1:=(hB.cell 1 rfl 0 (.int .u8 254)).cell 1 rfl 31 (.int .u8 15)
  have e2:((arr .u8 os).setIfInBounds 0 (.int .u8 254)).setIfInBounds 31 (.int .u8 15)=arr .u8 oa:=by rw [bf,bf,hos,HFE.out]
  have HB1:=acD (hb1.cast (l':=[(w.heap.size,arr .u8 zn, 23),(w.heap.size+1,arr .u8 oa, 23)]) (by rw [← e2];rfl))
  clear hb1 e2 hos hB ol
  go_wp2_with (first|((with_reducible refine aS 11 ?_);refine lL rfl rfl (HB1.out.get 1 rfl) rfl (au _ _) Tryd.underlying23 rfl (bU HOL.out) ?_)|((with_reducible refine aT 0 ?_);refine lS rfl rfl HB1 0 rfl rfl rfl (ay _ _ HOL.out cK.out) (bE HOL.out) (av _ _) ?_;intro w8 fC))
  (try simp only [Exit.inBlock,Exit.then])
  refine bodyPost_ret (results_cell_row rfl _ _ (w.heap.size) 23 _ (0,0) _ rfl (fC.out.get 0 rfl) Tryd.underlying23 rfl (bE HOL.out)) rfl ?_
  exact ⟨by rw [HOE.out],fC.out.below⟩
theorem lG {T:Nat→Prop} {a b:World} {g o:Nat} {xs:List Value} (h:a.rangeAt g o xs) (k:Kept T a b) (hT:¬ T g):b.rangeAt g o xs:=fun j v hj=>k.l9 (h j v hj) hT
theorem num_beq {a b:Nat} (ha:a < p) (hb:b < p):(aW (bD 256 32 a) == aW (bD 256 32 b))=decide (a=b):=by
 have hp:p < 256 ^ 32:=by decide +kernel
 by_cases e:a=b
 ·subst e;simp
 ·rw [decide_eq_false e,beq_eq_false_iff_ne]
  intro h
  have h1:=fA 256 32 a
  have h2:=fA 256 32 b
  have h3:bD 256 32 a=bD 256 32 b:=by
   have:=congrArg (List.map Int.toNat) h
   have e:∀ l:List Nat,(aW l).map Int.toNat=l:=fun l=>by rw [aW,List.map_map];exact List.map_id l
   rwa [e,e] at this
  rw [h3,h2,acI (by omega),acI (by omega)] at h1
  exact e h1.symm
theorem FD {P:Program} {o:Oper} {ev:Operand→Value} {w:World} (t ty:TypeId) (e:TypeId) (x y:Operand) (ho:o.op = .binOp .eql t x y ty) (n:Nat) (k k':IntKind)
  (ht:P.underlying t=some (.array n e)) (he:P.underlying e=some (.int k')) (hsz:∀ w,(sizeOf e).run P w = .ok 1 w) (hm:P.eqGuardType P.depth t=false)
  (xs ys:List Int) (hx:ev x = .agg (arr k xs)) (hy:ev y = .agg (arr k ys)) (lx:xs.length=n) (ly:ys.length=n) (b:Bool) (hb:(xs == ys)=b) :
  (execOp ev o).run P w = .ok (.value (.bool b)) w:=by
 simp only [execOp,ho,hx,hy,Sem.run_bind,run_eqGuard_agg w .eql t x y _ _ hm,Result.andThen_ok,wX w t e n k k' ht he hsz xs ys lx ly,hb]
 rfl
theorem Jq (v k:Nat):v / 256 ^ (k / 8) % 256 / 2 ^ (k % 8) % 2=v / 2 ^ k % 2:=by
 have e:2 ^ k=256 ^ (k / 8) * 2 ^ (k % 8):=by
  rw [show (256:Nat)=2 ^ 8 by rfl,← Nat.pow_mul,← Nat.pow_add]
  congr 1
  omega
 rw [e,← Nat.div_div_eq_div_mul]
 generalize v / 256 ^ (k / 8)=y
 have h8:k % 8 < 8:=acJ _ (by decide)
 generalize k % 8=s at h8 ⊢
 have hB:(256:Nat)=2 ^ s * (2 * 2 ^ (7 - s)):=by
  rw [show (256:Nat)=2 ^ 8 by rfl,← Nat.pow_succ',← Nat.pow_add]
  congr 1
  omega
 rw [hB,Nat.mod_mul_right_div_self,Nat.mod_mul_right_mod]
theorem abT (y:Nat) (h:y < 256):bits .and .u8 (y:Int) 1=((y % 2:Nat):Int):=by
 have e:y &&& 1=y % 2:=Nat.and_two_pow_sub_one_eq_mod y 1
 have h1:(acG 8 (y:Int)).toNat=y:=by rw [BitVec.ofInt_natCast,BitVec.toNat_ofNat];exact acI (by omega)
 have h2:(acG 8 (1:Int)).toNat=1:=by decide
 show IntKind.u8.wrap ((acG 8 (y:Int) &&& acG 8 (1:Int)).toNat:Int)=_
 rw [BitVec.toNat_and,h1,h2,e,IntKind.wrap_u8]
 omega
theorem AV (es:List Int) (v k:Nat) (he:es=aW (bD 256 32 v)) (hk:k < 256):∃ y:Nat,es.getD (k / 8) 0=y∧y < 256∧bits .and .u8 ((y:Int) / 2 ^ (k % 8)) 1=((v / 2 ^ k % 2:Nat):Int):=by
 refine ⟨v / 256 ^ (k / 8) % 256,by rw [he,bG,dz _ _ _ _ (by omega)],acJ _ (by decide),?_⟩
 have e1:((v / 256 ^ (k / 8) % 256:Nat):Int) / 2 ^ (k % 8)=((v / 256 ^ (k / 8) % 256 / 2 ^ (k % 8):Nat):Int):=by
  rw [Int.natCast_ediv,Int.natCast_pow];rfl
 rw [e1,abT _ (Nat.lt_of_le_of_lt (Nat.div_le_self _ _) (acJ _ (by decide))),Jq]
theorem PN (xs:List Int) (a v:Nat) (w:World) (hx:El xs a) :
  Calls Tryd.prog 86 #[.agg (arr .i64 xs), .agg (arr .u8 (aW (bD 256 32 v)))] w fun e w'=>∃ zs,e = .returned (.agg (arr .i64 zs))∧El zs (iE a v 256)∧Below w.heap.size w w':=by
 obtain ⟨ze,iM⟩:∃ zs:List Int,zs=acF 16 0:=⟨_,rfl⟩
 have dN:Hid (∀ w,(zeroValue 98).run Tryd.prog w = .ok (.agg (arr .i64 ze)) w):=acD (by intro w;rw [iM];exact gJ w)
 have dG:Hid (ze.length=16):=acD (by rw [iM];rfl)
 obtain ⟨es,hes⟩:∃ x,x=aW (bD 256 32 v):=⟨_,rfl⟩
 rw [← hes]
 have HES:=acD hes
 have JF:Hid (es.length=32):=acD (by rw [hes,aJ,aK])
 have HX:=acD hx
 have iK:=acD hx.1
 have bQ:=acD (bM.three w (arr .i64 xs) (arr .u8 es) (arr .i64 ze) 98 23 98)
 clear iM hes hx
 go_enter Tryd.func86, Tryd.ntmps86
 go_wp2_with (first|((with_reducible refine aS 4 ?_);refine aj rfl 98 rfl _ (dN.out _) ?_)|((with_reducible show Calls _ _ #[.int _ _] _ _);go_at_call 71; refine (gu 1 _ (by decide)).mono ?_;rintro e w1 ⟨z1,rfl,h1,hb1⟩;have HZ1:=acD h1;have nC:=acD h1.1;have HB1:=acD (bQ.out.kept hb1);clear h1 hb1)|((with_reducible refine aS 5 ?_);refine aj rfl 98 rfl _ (dN.out _) ?_;have HB2:=acD (HB1.out.alloc (arr .i64 ze) 98);generalize w1.heap.size=gx at HB2 ⊢)|((with_reducible refine aT 5 ?_);refine lS rfl rfl HB2 3 rfl rfl rfl (ay _ _ nC.out dG.out) (cZ nC.out) (av _ _) ?_;intro w3 HB3))
 go_loopw [6] (fun v' wr=>∃ n:Nat,n≤256∧v' = .int .i64 (255 - (n:Int))∧∃ cs:List Int,El cs (iE a v n)∧bM w wr [(w.heap.size,arr .i64 xs, 98),(w.heap.size+1,arr .u8 es, 23),(w.heap.size+1+1,arr .i64 ze, 98),(gx,arr .i64 cs, 98)]) (fun v' _=>(intOf v'+1).toNat)
 case atStart=>exact ⟨0,acH _,rfl,_,HZ1.out,HB3.out⟩
 clear bQ HB1 HB2 HB3
 case round =>
 obtain ⟨n,hn,rfl,cs,hcs,hB⟩:=hrel
 by_cases hlt:n < 256
 ·obtain ⟨i,hi⟩:∃ i:Nat,i+n=255:=⟨255 - n,by omega⟩
  have hz:(255:Int) - (n:Int)=(i:Int):=by omega
  have hi2:i < 256:=by omega
  obtain ⟨y,hy,hy2,hbit⟩:=AV es v i HES.out hi2
  have q0:=aP (hB.get 1 rfl) (i / 8) (by rw [JF.out];omega)
  rw [hy] at q0
  have hpn:=VY a v n
  rw [show 255 - n=i by omega] at hpn
  rw [hz]
  have JG:=acD hcs
  have nD:=acD hcs.1
  have HB:=acD hB
  have HI:=acD hi
  have HY:=acD hy
  clear hcs hB hy hz hi
  have q9:0≤(i:Int):=by omega
  rcases (show v / 2 ^ i % 2=0∨v / 2 ^ i % 2=1 by omega) with hb|hb
  ·rw [hb] at hbit
   rw [if_neg (by omega)] at hpn
   have hbit0:bits .and .u8 ((y:Int) / 2 ^ (i % 8)) 1=0:=hbit
   have JX:=acD hpn
   clear hpn hb hbit
   go_wp2_with (first|((with_reducible refine aS 12 ?_);refine lL rfl rfl (HB.out.get 3 rfl) rfl (au _ _) Tryd.underlying98 rfl (bJ nD.out) ?_)|((with_reducible refine aS 13 ?_);refine lL rfl rfl (HB.out.get 3 rfl) rfl (au _ _) Tryd.underlying98 rfl (bJ nD.out) ?_)|((with_reducible show Calls _ _ #[.agg (arr _ cs), .agg (arr _ cs)] _ _);go_at_call 68; refine (bL _ _ _ _ _ JG.out JG.out).mono ?_;rintro e w5 ⟨z5,rfl,h5,hb5⟩;have HZ5:=acD h5;have ND:=acD h5.1;have fM:=acD (HB.out.kept hb5);clear h5 hb5)|((with_reducible refine aT 5 ?_);refine ah rfl 98 _ _ rfl (gx) _ _ 98 (fM.out.get 3 rfl) rfl rfl (ay _ _ ND.out nD.out) (cZ ND.out) (av _ _) ?_;intro w6 hb6 yM K9;have ko:=acD (fM.out.put 3 rfl yM hb6);have q1:=aP (ko.out.get 1 rfl) (i / 8) (by rw [JF.out];omega);rw [HY.out] at q1;clear hb6 yM K9))
   go_roundw
   case rel =>
    have e:=HI.out
    exact ⟨n+1,by omega,by congr 1;omega,_,by rw [JX.out];exact HZ5.out,ko.out⟩
   case measure=>simp [intOf]
  ·rw [if_pos hb] at hpn
   rw [hb] at hbit
   have hbit1:bits .and .u8 ((y:Int) / 2 ^ (i % 8)) 1=1:=hbit
   have JX:=acD hpn
   clear hpn hb hbit
   go_wp2_with (first|((with_reducible refine aS 12 ?_);refine lL rfl rfl (HB.out.get 3 rfl) rfl (au _ _) Tryd.underlying98 rfl (bJ nD.out) ?_)|((with_reducible refine aS 13 ?_);refine lL rfl rfl (HB.out.get 3 rfl) rfl (au _ _) Tryd.underlying98 rfl (bJ nD.out) ?_)|((with_reducible show Calls _ _ #[.agg (arr _ cs), .agg (arr _ cs)] _ _);go_at_call 68; refine (bL _ _ _ _ _ JG.out JG.out).mono ?_;rintro e w5 ⟨z5,rfl,h5,hb5⟩;have HZ5:=acD h5;have ND:=acD h5.1;have fM:=acD (HB.out.kept hb5);clear h5 hb5)|(with_reducible refine aT 5 (x:=(Operand.tmp 14)) ?_);((with_reducible refine aT 5 ?_);refine ah rfl 98 _ _ rfl (gx) _ _ 98 (fM.out.get 3 rfl) rfl rfl (ay _ _ ND.out nD.out) (cZ ND.out) (av _ _) ?_;intro w6 hb6 yM K9;have ko:=acD (fM.out.put 3 rfl yM hb6);have q1:=aP (ko.out.get 1 rfl) (i / 8) (by rw [JF.out];omega);rw [HY.out] at q1;clear hb6 yM K9)|((with_reducible refine aS 25 ?_);refine lL rfl rfl (ko.out.get 3 rfl) rfl (au _ _) Tryd.underlying98 rfl (bJ ND.out) ?_)|((with_reducible refine aS 26 ?_);refine lL rfl rfl (ko.out.get 0 rfl) rfl (au _ _) Tryd.underlying98 rfl (bJ iK.out) ?_)|((with_reducible show Calls _ _ #[.agg (arr _ z5), .agg (arr _ xs)] _ _);go_at_call 68; refine (bL _ _ _ _ _ HZ5.out HX.out).mono ?_;rintro e w7 ⟨z7,rfl,h7,dR⟩;have HZ7:=acD h7;have HL7:=acD h7.1;have eG:=acD (ko.out.kept dR);clear h7 dR)|(with_reducible refine aT 5 (x:=(Operand.tmp 27)) ?_);((with_reducible refine aT 5 ?_);refine lS rfl rfl eG 3 rfl rfl rfl (ay _ _ HL7.out ND.out) (cZ HL7.out) (av _ _) ?_;intro w8 fC))
   go_roundw
   case rel =>
    have e:=HI.out
    exact ⟨n+1,by omega,by congr 1;omega,_,by rw [JX.out];exact HZ7.out,fC.out⟩
   case measure=>simp [intOf]
 ·obtain rfl:n=256:=by omega
  have hz:(255:Int) - ((256:Nat):Int) = -1:=by omega
  rw [hz]
  have JG:=acD hcs
  have nD:=acD hcs.1
  have HB:=acD hB
  clear hcs hB hz
  go_wp2_with (first|((with_reducible refine aS 28 ?_);refine lL rfl rfl (HB.out.get 3 rfl) rfl (au _ _) Tryd.underlying98 rfl (bJ nD.out) ?_)|((with_reducible refine aT 4 ?_);refine lS rfl rfl HB 2 rfl rfl rfl (ay _ _ nD.out dG.out) (cZ nD.out) (av _ _) ?_;intro w8 fC))
  (try simp only [Exit.inBlock,Exit.then])
  refine bodyPost_ret (results_cell_row rfl _ _ (w.heap.size+1+1) 98 _ (0,0) _ rfl (fC.out.get 2 rfl) Tryd.underlying98 rfl (cZ nD.out)) rfl ?_
  exact ⟨_,rfl,JG.out,fC.out.below⟩
theorem Fq (xs:List Int) (a:Nat) (w:World) (hx:El xs a) :
  Calls Tryd.prog 66 #[.agg (arr .i64 xs)] w fun e w'=>∃ zs,e = .returned (.agg (arr .i64 zs))∧El zs (finv a)∧Below w.heap.size w w':=by
 have hm:=WE
 have hp:=fun w=>PN xs a (p - 2) w hx
 obtain ⟨es,hes⟩:∃ x,x=aW (bD 256 32 (p - 2)):=⟨_,rfl⟩
 rw [← hes] at hm hp
 obtain ⟨ze,iM⟩:∃ zs:List Int,zs=acF 16 0:=⟨_,rfl⟩
 have dN:Hid (∀ w,(zeroValue 98).run Tryd.prog w = .ok (.agg (arr .i64 ze)) w):=acD (by intro w;rw [iM];exact gJ w)
 have dG:Hid (ze.length=16):=acD (by rw [iM];rfl)
 have HM:=acD hm
 have HP:=acD hp
 have iK:=acD hx.1
 have bQ:=acD (bM.two w (arr .i64 xs) (arr .i64 ze) 98 98)
 clear iM hes hx hm hp
 go_enter Tryd.func66, Tryd.ntmps66
 go_upto_region 1 with (first|((with_reducible refine aS 2 ?_);refine aj rfl 98 rfl _ (dN.out _) ?_))
 generalize ((w.alloc (.cells (arr .i64 xs) 98)).alloc (.cells (arr .i64 ze) 98))=wb at bQ ⊢
 have dZ:=acD ((Kept.refl (fun x=>x=w.heap.size+1) wb).drew)
 have eB:=acD (bQ.out.drew)
 refine wp_region_held_drew (S:=(fun w'=>Kept (fun x=>x=w.heap.size+1) wb w')) (by kernel_rfl) (dZ.out) (fun hHeld=>?_)
 generalize wb.drew=wd at dZ eB hHeld ⊢
 refine' wpAnyH_take (i:=0) (oi:=(⟨some 3,_,_,_,_,none⟩:Oper)) (v:=_) rfl (by kernel_rfl) (by kernel_rfl) (by kernel_rfl) (fun _ _ _ h=>h) (yieldsIf_load_mid (by rfl) _ _ rfl _ _ rfl (xs.map (Value.int .i64)) _ ?ZH Tryd.underlying98 rfl (by rw [acE];exact bJ iK.out)) (by assumption) ?yA
 case ZH=>(intro w hSw;(try dsimp only at hSw);exact aN (hSw.blk (bQ.out.get 0 rfl) (bQ.out.ne 0 1 rfl rfl (by decide))) 0 _ (by rw [acE];exact au _ _))
 (try simp only [Act.put,sA,sZ,sS])
 refine wpAnyH_ready (rs:=[1]) (by kernel_rfl) (by simp) ?_
 refine AllReadyH.cons (o:=(⟨some 4,_,_,_,_,none⟩:Oper)) rfl (fun K hK=>?_) AllReadyH.nil
 go_simp
 go_at_call 87
 refine (HM.out _).mono ?_
 rintro e U5 ⟨rfl,Ar⟩
 have rJ:=acD (eB.out.kept Ar)
 have Bz:=acD (dZ.out.trans (Kept.of_below Ar))
 clear Ar
 (try dsimp only)
 refine hK.out _ _ (Bz.out) (fun hHeld=>?_)
 clear hK K
 (try simp only [Act.put,sA,sZ,sS])
 refine wpAnyH_ready (rs:=[2]) (by kernel_rfl) (by simp) ?_
 refine AllReadyH.cons (o:=(⟨some 5,_,_,_,_,none⟩:Oper)) rfl (fun K hK=>?_) AllReadyH.nil
 go_simp
 go_at_call 86
 refine (HP.out _).mono ?_
 rintro e U4 ⟨z103,rfl,MH,rz⟩
 have HZ103:=acD MH
 have Ep:=acD MH.1
 clear MH
 have uY:=acD (rJ.out.kept rz)
 have Er:=acD (Bz.out.trans (Kept.of_below rz))
 clear rz
 (try dsimp only)
 refine hK.out _ _ (Er.out) (fun hHeld=>?_)
 clear hK K
 (try simp only [Act.put,sA,sZ,sS])
 refine wpAnyH_ready (rs:=[3]) (by kernel_rfl) (by simp) ?_
 refine AllReadyH.cons (o:=(⟨none,_,_,_,_,none⟩:Oper)) rfl (fun K hK=>?_) AllReadyH.nil
 refine aH rfl 98 (.tmp 2) (.tmp 5) rfl (w.heap.size+1) _ _ _ (uY.out.get 1 rfl) rfl rfl (ay _ _ Ep.out dG.out) (cZ Ep.out) (av _ _) ?_
 intro w104 IX X3 hz104
 have rH:=acD (uY.out.put 1 rfl X3 IX)
 have JE:=acD (Er.out.trans X3)
 clear IX X3 hz104
 refine hK.out _ _ (JE.out) (fun hHeld=>?_)
 clear hK K
 (try simp only [Act.put])
 refine wpAnyH_done (by kernel_rfl) ?_ _
 have rF:=rH
 have HLF:=Ep
 have HZF:=HZ103
 (try simp only [Exit.then])
 go_wp2_with fail
 refine bodyPost_ret (results_cell_row rfl _ _ (w.heap.size+1) 98 _ (0,0) _ rfl (rF.out.get 1 rfl) Tryd.underlying98 rfl (cZ HLF.out)) rfl ?_
 exact ⟨_,rfl,HZF.out,rF.out.below⟩
theorem pJ (xs ys:List Int) (a b:Nat) (w:World) (hx:El xs a) (hy:El ys b) :
  Calls Tryd.prog 95 #[.agg (arr .i64 xs), .agg (arr .i64 ys)] w fun e w'=>e = .returned (.bool (decide (a=b)))∧Below w.heap.size w w':=by
 have HX:=acD hx
 have HY:=acD hy
 have iK:=acD hx.1
 have HYL:=acD hy.1
 have hoa:=fun w=>nR xs a w hx
 have JR:=fun w=>nR ys b w hy
 have heq:(aW (bD 256 32 a) == aW (bD 256 32 b))=decide (a=b):=num_beq hx.lt hy.lt
 obtain ⟨oa,ha⟩:∃ o,o=aW (bD 256 32 a):=⟨_,rfl⟩
 obtain ⟨ob,hb⟩:∃ o,o=aW (bD 256 32 b):=⟨_,rfl⟩
 rw [← ha] at hoa heq
 rw [← hb] at JR heq
 have HOA:=acD hoa
 have HOB:=acD JR
 have HEQ:=acD heq
 have HAL:Hid (oa.length=32):=acD (by rw [ha,aJ,aK])
 have q8:Hid (ob.length=32):=acD (by rw [hb,aJ,aK])
 have bQ:=acD (bM.two w (arr .i64 xs) (arr .i64 ys) 98 98)
 clear hx hy hoa JR heq ha hb
 go_enter Tryd.func95, Tryd.ntmps95
 go_upto_region 1 with fail
 generalize ((w.alloc (.cells (arr .i64 xs) 98)).alloc (.cells (arr .i64 ys) 98))=wb at bQ ⊢
 have dZ:=acD ((Kept.refl (fun _=>False) wb).drew)
 have eB:=acD (bQ.out.drew)
 refine wp_region_held_drew (S:=(fun w'=>Kept (fun _=>False) wb w')) (by kernel_rfl) (dZ.out) (fun hHeld=>?_)
 generalize wb.drew=wd at dZ eB hHeld ⊢
 refine' wpAnyH_take (i:=0) (oi:=(⟨some 5,_,_,_,_,none⟩:Oper)) (v:=_) rfl (by kernel_rfl) (by kernel_rfl) (by kernel_rfl) (fun _ _ _ h=>h) (yieldsIf_load_mid (by rfl) _ _ rfl _ _ rfl (xs.map (Value.int .i64)) _ ?hS105 Tryd.underlying98 rfl (by rw [acE];exact bJ iK.out)) (by assumption) ?Pz
 case hS105=>(intro w hSw;(try dsimp only at hSw);exact aN (hSw.blk (bQ.out.get 0 rfl) (fun e=>e.elim)) 0 _ (by rw [acE];exact au _ _))
 (try simp only [Act.put,sA,sZ,sS])
 refine' wpAnyH_take (i:=2) (oi:=(⟨some 7,_,_,_,_,none⟩:Oper)) (v:=_) rfl (by kernel_rfl) (by kernel_rfl) (by kernel_rfl) (fun _ _ _ h=>h) (yieldsIf_load_mid (by rfl) _ _ rfl _ _ rfl (ys.map (Value.int .i64)) _ ?hS106 Tryd.underlying98 rfl (by rw [acE];exact bJ HYL.out)) (by assumption) ?Py
 case hS106=>(intro w hSw;(try dsimp only at hSw);exact aN (hSw.blk (bQ.out.get 1 rfl) (fun e=>e.elim)) 0 _ (by rw [acE];exact au _ _))
 (try simp only [Act.put,sA,sZ,sS])
 refine wpAnyH_ready (rs:=[1]) (by kernel_rfl) (by simp) ?_
 refine AllReadyH.cons (o:=(⟨some 6,_,_,_,_,none⟩:Oper)) rfl (fun K hK=>?_) AllReadyH.nil
 go_simp
 go_at_call 67
 refine (HOA.out _).mono ?_
 rintro e w107 ⟨rfl,Aq⟩
 have rG:=acD (eB.out.kept Aq)
 have JD:=acD (dZ.out.trans (Kept.of_below Aq))
 clear Aq
 (try dsimp only)
 refine hK.out _ _ (JD.out) (fun hHeld=>?_)
 clear hK K
 (try simp only [Act.put,sA,sZ,sS])
 refine wpAnyH_ready (rs:=[3]) (by kernel_rfl) (by simp) ?_
 refine AllReadyH.cons (o:=(⟨some 8,_,_,_,_,none⟩:Oper)) rfl (fun K hK=>?_) AllReadyH.nil
 go_simp
 go_at_call 67
 refine (HOB.out _).mono ?_
 rintro e w108 ⟨rfl,uJ⟩
 have xP:=acD (rG.out.kept uJ)
 have HK108:=acD (JD.out.trans (Kept.of_below uJ))
 clear uJ
 (try dsimp only)
 refine hK.out _ _ (HK108.out) (fun hHeld=>?_)
 clear hK K
 (try simp only [Act.put,sA,sZ,sS])
 refine wpAnyH_take (i:=4) (oi:=(⟨some 9,_,_,_,_,none⟩:Oper)) (v:=(.bool (decide (a=b)))) rfl (by kernel_rfl) (by kernel_rfl) (by kernel_rfl) (fun _ _ _ h=>h) (Or.inl ⟨by rfl,?IJ⟩) (by assumption) ?Px
 case IJ=>(intro w hSw;(try dsimp only at hSw);exact FD 23 _ _ (.tmp 6) (.tmp 8) rfl 32 .u8 .u8 Tryd.underlying23 Tryd.underlying5 (fun w=>by kernel_rfl) (by kernel_rfl) oa ob rfl rfl HAL.out q8.out _ HEQ.out)
 (try simp only [Act.put,sA,sZ,sS])
 refine wpAnyH_take (i:=5) (oi:=(⟨some 4,_,_,_,_,none⟩:Oper)) (v:=?v110) rfl (by kernel_rfl) (by kernel_rfl) (by kernel_rfl) (fun _ _ _ h=>h) (Or.inl ⟨by rfl,?II⟩) (by assumption) ?Pw
 case II=>(intro w hSw;(try dsimp only at hSw);go_simp;try (with_reducible rfl))
 (try simp only [Act.put,sA,sZ,sS])
 refine wpAnyH_done (by kernel_rfl) ?_ _
 have rF:=xP
 (try simp only [Exit.then])
 go_wp2_with fail
 go_ret
 exact ⟨rfl,rF.out.below⟩
end Go.Proofs.YthdgbgleklkaiaaDoor.Rd
