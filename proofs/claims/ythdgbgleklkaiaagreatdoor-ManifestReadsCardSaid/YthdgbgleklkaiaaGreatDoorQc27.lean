/- pack.New, Cursor.Raw, Int: The document's Poly. Condition: as each theorem says. -/
import Derived.Deep.CutBlock
import Derived.Test.YthdgbgleklkaiaaGreatDoorQc26
open Go.Lib renaming hid→abC
open List renaming replicate→abD,length_drop→abI
open Nat renaming le_refl→abE,zero_le→abG,not_lt_zero→abH,mod_eq_of_lt→abL
open BitVec renaming ofInt→abF,ofInt_natCast→abJ,toNat_ofNat→abK
open Int renaming natCast_add→abN
set_option linter.unusedSimpArgs false
set_option linter.unusedVariables false
set_option maxRecDepth 100000
set_option maxHeartbeats 16000000
namespace Go.Proofs.YthdgbgleklkaiaaGreatDoor
open Go.RowKit
structure dS (w:World) (p q:Nat) (xs:List Int) (bad:Bool):Prop where
 st:∃ sa c,w.heap[p]? = some (.cells #[.slice sa xs.length c, .bool bad] 139 (0,0))∧Src w sa xs.length xs∧xs.length≤c∧(sa=none→c=0)∧(∀ a,sa=some a→a.block=q)
 ne:p≠q
 lt:p < w.heap.size
theorem dS.kept {T:Nat→Prop} {w w':World} {p q:Nat} {xs:List Int} {bad:Bool} (h:dS w p q xs bad) (k:Kept T w w') (hp:¬ T p) (hq:¬ T q):dS w' p q xs bad:=by
 obtain ⟨⟨sa,c,h1,h2,h3,h4,h5⟩,h6,h7⟩:=h
 exact ⟨⟨sa,c,k.blk h1 hp,h2.kept k (fun a e => .inr (by rw [h5 a e];exact hq)),h3,h4,h5⟩,h6,Nat.lt_of_lt_of_le h7 k.size⟩
theorem dS.below {w w':World} {p q:Nat} {xs:List Int} {bad:Bool} (h:dS w p q xs bad) (k:Below w.heap.size w w'):dS w' p q xs bad:=h.kept (T:=fun _=>False) (Kept.of_below k) id id
theorem dS.drewN {w:World} {p q:Nat} {xs:List Int} {bad:Bool} (h:dS w p q xs bad) (n:Nat):dS (w.drewN n) p q xs bad:=h.kept (T:=fun _=>False) ((Kept.refl _ w).drewN n) id id
theorem ZM (sa:Option Addr) (n c:Nat) (xs:List Int) (w:World) (hs:Src w sa n xs) (hn:n≤1099511627776) :
  Calls Tryz.prog 39 #[.slice sa n c] w fun e w'=>∃ p q,e = .returned (.pointer (some ⟨p,0,none⟩))∧dS w' p q xs false∧w.heap.size≤p∧w.heap.size≤q∧Below w.heap.size w w':=by
 have HC:=abC (DZ sa n c xs w hs hn)
 clear hs hn
 go_enter Tryz.func39, Tryz.ntmps39
 go_wp2_with (go_at_call 90; refine HC.out.mono ?_;rintro e w1 ⟨v1,rfl,ho1,hb1⟩;obtain ⟨s1,c1,rfl,hc1,hm1,hs1,hq1⟩:=ho1.form)
 go_ret
 have hb2:=hb1.alloc hb1.size (.cells #[.slice s1 xs.length c1, .bool false] 139)
 have hs2:Src (w1.alloc (.cells #[.slice s1 xs.length c1, .bool false] 139)) s1 xs.length xs:=hs1.below ((Below.refl _ w1).alloc (abE _) _)
 rcases hq1 with ⟨rfl,rfl,rfl⟩|⟨g,rfl,hg1,hg2⟩
 ·exact ⟨_,w1.heap.size+1,rfl,⟨⟨none,0,aH w1 _,hs2,abE _,fun _=>rfl,fun a e=>(by cases e)⟩,by omega,by simp⟩,hb1.size,by have:=hb1.size;omega,hb2⟩
 ·exact ⟨_,g,rfl,⟨⟨_,c1,aH w1 _,hs2,hc1,fun e=>(by cases e),fun a e=>(by cases e;rfl)⟩,by omega,by simp⟩,hb1.size,hg1,hb2⟩
def dR (xs:List Int) (bad:Bool) (n:Int):Bool := !bad && decide (0≤n) && decide (n≤xs.length)
def bX (xs:List Int) (bad:Bool) (n:Int):List Int:=if dR xs bad n then xs.take n.toNat else []
def mP (xs:List Int) (bad:Bool) (n:Int):List Int:=if dR xs bad n then xs.drop n.toNat else (if bad then xs else [])
theorem eu {xs:List Int} {bad:Bool} {n:Int}:dR xs bad n=true↔bad=false∧0≤n∧n≤xs.length:=by
 simp [dR,and_assoc]
theorem ZJ (p q:Nat) (xs:List Int) (n:Int) (w:World) (h:dS w p q xs true) :
  Calls Tryz.prog 40 #[.pointer (some ⟨p,0,none⟩), .int .i64 n] w fun e w'=>e = .returned (.slice none 0 0)∧w=w':=by
 obtain ⟨⟨sa,c,h1,h2,h3,h4,h5⟩,h6,h7⟩:=h
 have c1:w.cell? ⟨p,1,none⟩=some (.bool true):=aF h1 1
 clear h1 h2 h3 h4 h5
 go_enter Tryz.func40, Tryz.ntmps40
 go_wp2
 go_step3
 go_wp2
 rw [Exit.noGoto_ret]
 go_ret
 exact ⟨rfl,rfl⟩
theorem craw_no (p q:Nat) (xs:List Int) (n:Int) (w:World) (h:dS w p q xs false) (hn:n < 0∨(0≤n∧(xs.length:Int) < n)) :
  Calls Tryz.prog 40 #[.pointer (some ⟨p,0,none⟩), .int .i64 n] w fun e w'=>e = .returned (.slice none 0 0)∧dS w' p q [] true∧Kept (· = p) w w'∧w'.heap.size=w.heap.size:=by
 obtain ⟨⟨sa,c,h1,h2,h3,h4,h5⟩,h6,h7⟩:=h
 have c0:w.cell? ⟨p,0,none⟩=some (.slice sa xs.length c):=aF h1 0
 have c1:w.cell? ⟨p,1,none⟩=some (.bool false):=aF h1 1
 have f0:=aC h1 0
 have f1:=aC h1 1
 have fin:∀ w',w'=(w.setCell ⟨p,0,none⟩ (.slice none 0 0)).setCell ⟨p,1,none⟩ (.bool true)→dS w' p q [] true∧Kept (· = p) w w'∧w'.heap.size=w.heap.size:=by
  rintro w' rfl
  refine ⟨⟨⟨none,0,by rw [aQ (aQ h1 _)];simp,⟨rfl,fun i hi=>absurd hi (abH _)⟩,abE _,fun _=>rfl,fun a e=>(by cases e)⟩,h6,by simpa [World.setCell] using h7⟩,((Kept.refl _ _).at _ _).at _ _,by simp [World.setCell]⟩
 have FIN:=abC fin
 clear fin h1 h2 h3 h4 h5
 rcases hn with h0|⟨h0,h00⟩
 all_goals
  go_enter Tryz.func40, Tryz.ntmps40
  go_wp2
  refine EF 0 rfl ?_
  go_wp2
  go_step3
  refine ⟨rfl,?_⟩
  go_wp2
  (try rw [Exit.noGoto_ret])
  go_ret
  exact ⟨rfl,FIN.out _ rfl⟩
theorem craw_ok (p q:Nat) (xs:List Int) (n:Nat) (w:World) (h:dS w p q xs false) (hn:n≤xs.length) (hl:xs.length≤1099511627776) :
  Calls Tryz.prog 40 #[.pointer (some ⟨p,0,none⟩), .int .i64 n] w fun e w'=>∃ v,e = .returned v∧aU w' w.heap.size v (xs.take n)∧dS w' p q (xs.drop n) false∧Kept (· = p) w w':=by
 obtain ⟨⟨sa,c,h1,h2,h3,h4,h5⟩,h6,h7⟩:=h
 have c0:w.cell? ⟨p,0,none⟩=some (.slice sa xs.length c):=aF h1 0
 have c1:w.cell? ⟨p,1,none⟩=some (.bool false):=aF h1 1
 have hcl:=fun c'=>DZ sa n c' (xs.take n) w (h2.take n hn) (by omega)
 cases sa with
 | none =>
  have hc:=h4 rfl
  have hx:xs=[]:=List.eq_nil_of_length_eq_zero (by omega)
  subst hx hc
  obtain rfl:n=0:=by simpa using hn
  have fin:∀ w1 v,aU w1 w.heap.size v []→Below w.heap.size w w1→w1.heap[p]? = some (.cells #[.slice none 0 0, .bool false] 139 (0,0))∧∀ w',w'=w1.setCell ⟨p,0,none⟩ (.slice none 0 0)→aU w' w.heap.size v []∧dS w' p q [] false∧Kept (· = p) w w':=by
   intro w1 v ho hb
   have hp:=Below.blk hb h1 h7
   refine ⟨hp,?_⟩
   rintro w' rfl
   exact ⟨ho.kept ((Kept.refl (· = p) w1).at 0 _) (fun g e=>by have:=ho.lt g e;omega),⟨⟨none,0,by rw [aQ hp];simp,⟨rfl,fun i hi=>absurd hi (abH _)⟩,abE _,fun _=>rfl,fun a e=>(by cases e)⟩,h6,by have:=hb.size;simp [World.setCell];omega⟩,(Kept.of_below hb).at 0 _⟩
  have FIN:=abC fin
  have mF:=abC hcl
  clear fin h1 h2 h3 h4 h5 hcl
  go_enter Tryz.func40, Tryz.ntmps40
  go_wp2
  go_step3
  go_wp2_with (go_at_call 90; refine (mF.out _).mono ?_;rintro e w1 ⟨v1,rfl,ho1,hb1⟩;obtain ⟨p1,p2⟩:=FIN.out w1 v1 ho1 hb1;have d0:w1.cell? ⟨p,0,none⟩=some (.slice none 0 0):=aF p1 0;have d1:=aC p1 0;have P2:=abC p2;clear p1 p2 ho1 hb1)
  (try rw [Exit.noGoto_ret])
  go_ret
  exact ⟨_,rfl,P2.out _ rfl⟩
 | some ad =>
  have hq:=h5 ad rfl
  have fin:∀ w1 v,aU w1 w.heap.size v (xs.take n)→Below w.heap.size w w1→w1.heap[p]? = some (.cells #[.slice (some ad) xs.length c, .bool false] 139 (0,0))∧∀ w' y m k,y=(if c=n then some ad else some (ad.add n))→m=xs.length - n→k=c - n→w'=w1.setCell ⟨p,0,none⟩ (.slice y m k)→aU w' w.heap.size v (xs.take n)∧dS w' p q (xs.drop n) false∧Kept (· = p) w w':=by
   intro w1 v ho hb
   have hp:=Below.blk hb h1 h7
   refine ⟨hp,?_⟩
   rintro w' y m k rfl rfl rfl rfl
   have hk:Kept (· = p) w (w1.setCell ⟨p,0,none⟩ (.slice (if c=n then some ad else some (ad.add n)) (xs.length - n) (c - n))):=(Kept.of_below hb).at 0 _
   have hs1:=h2.kept hk (fun a e => .inr (by cases e;rw [hq];exact fun e=>h6 e.symm))
   have hs2:Src (w1.setCell ⟨p,0,none⟩ (.slice (if c=n then some ad else some (ad.add n)) (xs.length - n) (c - n))) (if c=n then some ad else some (ad.add n)) (xs.length - n) (xs.drop n):=by
    by_cases e:c=n
    ·have hz:xs.length - n=0:=by omega
     rw [hz,List.drop_eq_nil_of_le (by omega)]
     exact ⟨rfl,fun i hi=>absurd hi (abH _)⟩
    ·rw [if_neg e] at hs1 ⊢
     have:=hs1.part n (xs.length - n) (by omega)
     rwa [List.take_of_length_le (by simp)] at this
   refine ⟨ho.kept ((Kept.refl (· = p) w1).at 0 _) (fun g e=>by have:=ho.lt g e;omega),⟨⟨if c=n then some ad else some (ad.add n),c - n,by rw [aQ hp];simp,by rw [abI];exact hs2,by rw [abI];omega,fun e=>(by split at e <;> cases e),fun a e=>?_⟩,h6,by have:=hb.size;simp [World.setCell];omega⟩,hk⟩
   split at e
   ·cases e;exact hq
   ·cases e;rw [block_add];exact hq
  have mF:=abC hcl
  have FIN:=abC fin
  have h8:¬ (n:Int) < 0:=by omega
  have h9:¬ (xs.length:Int) < (n:Int):=by omega
  have h10:¬ (c:Int) < (n:Int):=by omega
  clear fin h1 h2 h4 h5 hcl hq
  generalize xs.length=L at c0 FIN h9 h3 hn
  go_enter Tryz.func40, Tryz.ntmps40
  go_wp2
  go_step3
  go_wp2_with (go_at_call 90; refine (mF.out _).mono ?_;rintro e w1 ⟨v1,rfl,ho1,hb1⟩;obtain ⟨p1,p2⟩:=FIN.out w1 v1 ho1 hb1;have d0:w1.cell? ⟨p,0,none⟩=some (.slice (some ad) L c):=aF p1 0;have d1:=aC p1 0;have P2:=abC p2;clear p1 p2 ho1 hb1)
  all_goals
   (try rw [Exit.noGoto_ret])
   go_ret
   exact ⟨_,rfl,P2.out _ _ _ _ (by simp_all) rfl (by omega) rfl⟩
end Go.Proofs.YthdgbgleklkaiaaGreatDoor
namespace Go.Proofs.YthdgbgleklkaiaaGreatDoor.Po
open Go.RowKit Lm
theorem U8 (w:World):(zeroValue 177).run Tryz.prog w = .ok (.agg (arr .u8 (abD 16 0))) w:=by kernel_rfl
theorem QT (x m:Nat) (hx:x < 9223372036854775808) (hm:m < 9223372036854775808):bits .and .i64 (x:Int) (m:Int)=((x &&& m:Nat):Int):=by
 have h1:(abF 64 (x:Int)).toNat=x:=by rw [abJ,abK];exact abL (by omega)
 have h2:(abF 64 (m:Int)).toNat=m:=by rw [abJ,abK];exact abL (by omega)
 show IntKind.i64.wrap ((abF 64 (x:Int) &&& abF 64 (m:Int)).toNat:Int)=_
 have h3:x &&& m≤x:=Nat.and_le_left
 rw [BitVec.toNat_and,h1,h2,IntKind.wrap_i64]
 omega
theorem RD (x:Nat):IntKind.u8.wrap ((x % 256:Nat):Int)=((x % 256:Nat):Int):=by rw [IntKind.wrap_u8];omega
theorem ZT (m hr c rr:List Nat) (q f R V:Nat) (hf:f=16 * q) (hh:val 256 hr % (2 ^ 130 - 5)=acc R m q) (hc:val 256 c=val 256 ((m.drop f).take 16 ++ [1])) (hr':val 256 rr=R) (ha:val 256 (addr hr c 17)=val 256 hr+val 256 c) (hV:V % (2 ^ 130 - 5)=val 256 (addr hr c 17) * val 256 rr % (2 ^ 130 - 5)):V % (2 ^ 130 - 5)=acc R m (q+1):=by
 rw [hV,ha,hr',acc,← hf,← hc,← hh]
 generalize 2 ^ 130 - 5=P
 have e:(val 256 hr+val 256 c) % P=(val 256 hr % P+val 256 c) % P:=(Nat.mod_add_mod _ _ _).symm
 rw [Nat.mul_mod,e,← Nat.mul_mod]
theorem WH (sa:Option Addr) (n cap:Nat) (ks m:List Nat) (w:World) (hs:Src w sa n (aW m)) (hmb:∀ x∈m,x < 256) (lk:ks.length=32) (bk:∀ x∈ks,x < 256) (hn:n≤1099511627776) :
  Calls Tryz.prog 183 #[.agg (arr .u8 (aW ks)), .slice sa n cap] w fun e w'=>e = .returned (.agg (arr .u8 (aW (KC ks m))))∧Below w.heap.size w w':=by
 have hml:m.length=n:=by have:=hs.len;rwa [aG] at this
 obtain ⟨zt,Ci⟩:∃ zs:List Nat,zs=abD 16 0:=⟨_,rfl⟩
 have hyt:∀ w,(zeroValue 177).run Tryz.prog w = .ok (.agg (arr .u8 (aW zt))) w:=by intro w;rw [Ci,iM];exact U8 w
 have Je:zt.length=16:=by rw [Ci];rfl
 obtain ⟨zs,hzs⟩:∃ zs:List Nat,zs=abD 17 0:=⟨_,rfl⟩
 have hz:∀ w,(zeroValue 239).run Tryz.prog w = .ok (.agg (arr .i64 (aW zs))) w:=by intro w;rw [hzs,iM];exact Ey w
 have hzl:zs.length=17:=by rw [hzs];rfl
 have hz0:zs=upto (fun t=>ks.getD t 0) 17 0:=by rw [uO,hzs]
 obtain ⟨kf,hkf⟩:∃ kf:Nat→Nat,kf=fun t=>ks.getD t 0:=⟨_,rfl⟩
 rw [← hkf] at hz0
 have hre:=r1_end ks
 rw [← hkf] at hre
 have hkfi:∀ i,ks.getD i 0=kf i:=fun i=>by rw [hkf]
 obtain ⟨e1,e2⟩:=r3_end ks lk bk
 obtain ⟨rr,hrr⟩:∃ x,x=eH 17 (r3 ks 16):=⟨_,rfl⟩
 obtain ⟨R,hR⟩:∃ x,x=rv ks:=⟨_,rfl⟩
 obtain ⟨r23,hr23⟩:∃ x,x=eH 17 (r2 ks 3):=⟨_,rfl⟩
 obtain ⟨r34,hr34⟩:∃ x,x=eH 17 (r3 ks 4):=⟨_,rfl⟩
 have hre2:=r2_end ks
 rw [← hrr,← hR] at e1
 rw [← hrr] at e2
 rw [← hr23] at hre
 rw [← hr34] at hre2
 have rrl:rr.length=17:=by rw [hrr,iU]
 have S0:=B4.start w (arr .u8 (aW ks)) (arr .u8 (aW zt)) (arr .i64 (aW zs)) (arr .i64 (aW zs)) 25 177 239 239
 have bW:=abC S0
 have HS:=abC hs
 have uE:=abC hml
 have HMB:=abC hmb
 have LK:=abC lk
 have BK:=abC bk
 have HYT:=abC hyt
 have HZT:=abC Je
 have HZTE:=abC Ci
 have HZ:=abC hz
 have uz:=abC hzl
 have HZE:=abC hzs
 have HZ0:=abC hz0
 have HKF:=abC hkfi
 have Ck:=abC hre
 have HRE2:=abC hre2
 have HR23:=abC hr23
 have HR34:=abC hr34
 have HRR:=abC hrr
 have HRV:=abC hR
 have HE1:=abC e1
 have HE2:=abC e2
 have RRL:=abC rrl
 clear S0 hs hml hmb lk bk hyt Je Ci hz hzl hzs hz0 hkf hkfi hre hre2 hr23 hr34 hrr hR e1 e2 rrl
 go_enter Tryz.func183, Tryz.ntmps183
 go_upto_block 0 with (first|((with_reducible refine aS 4 ?_);refine ah rfl 177 rfl _ (HYT.out _) ?_)|((with_reducible refine aS 5 ?_);refine ah rfl 239 rfl _ (HZ.out _) ?_)|((with_reducible refine aS 6 ?_);refine ah rfl 239 rfl _ (HZ.out _) ?_))
 go_cut [] (fun wx=>B4 w wx (arr .u8 (aW ks)) (arr .u8 (aW zt)) (arr .i64 (aW r23)) (arr .i64 (aW zs)) 25 177 239 239)
 case first =>
  go_wp2_with fail
  go_loopw [7] (fun v wr=>∃ i:Nat,i≤16∧v = .int .i64 i∧B4 w wr (arr .u8 (aW ks)) (arr .u8 (aW zt)) (arr .i64 (aW (upto kf 17 i))) (arr .i64 (aW zs)) 25 177 239 239) (fun v _=>16 - (intOf v).toNat)
  case atStart=>exact ⟨0,abG _,rfl,by rw [← HZ0.out];exact bW.out⟩
  clear bW
  case round =>
  obtain ⟨i,hi,rfl,hB⟩:=hrel
  by_cases hlt:i < 16
  ·have q0:=cB hB.b0 i (by rw [aG,LK.out];omega)
   have q2:=cB hB.b2 i (by rw [aG,oQ];omega)
   have q3:=aC hB.b2 i
   rw [bH,HKF.out] at q0
   have hb1:=hB.set2 i (.int .i64 ((kf i:Nat):Int))
   rw [bq,← cZ,yX] at hb1
   have hx:kf i < 256:=by rw [← HKF.out];exact dA BK.out (by decide) i
   have HB1:=abC hb1
   generalize kf i=x at q0 HB1 hx
   clear hB hb1
   go_wp2_with fail
   go_roundw
   case rel=>exact ⟨i+1,by omega,by go_num,HB1.out⟩
   case measure=>simp [intOf];omega
  ·have ei:i=16:=by omega
   rw [ei,Ck.out] at hB
   have HB:=abC hB
   clear hB ei
   go_wp2_with fail
   go_meet
   exact HB.out
 case rest =>
 clear bW HKF HZ0 Ck
 obtain ⟨wa,rfl⟩:∃ x:World,x=wc:=⟨_,rfl⟩
 have HBA:=abC hcut
 clear hcut
 go_upto_block 2 with fail
 go_cut [] (fun wx=>B4 w wx (arr .u8 (aW ks)) (arr .u8 (aW zt)) (arr .i64 (aW r34)) (arr .i64 (aW zs)) 25 177 239 239)
 case first =>
  go_wp2_with fail
  go_loopw [8] (fun v wr=>∃ j:Nat,j≤19∧j % 4=3∧v = .int .i64 j∧B4 w wr (arr .u8 (aW ks)) (arr .u8 (aW zt)) (arr .i64 (aW (eH 17 (r2 ks j)))) (arr .i64 (aW zs)) 25 177 239 239) (fun v _=>19 - (intOf v).toNat)
  case atStart=>exact ⟨3,by omega,rfl,rfl,by rw [← HR23.out];exact HBA.out⟩
  case round =>
  obtain ⟨j,hj,hj4,rfl,hB⟩:=hrel
  by_cases hlt:j < 16
  ·have q2:=cB hB.b2 j (by rw [aG,iU];omega)
   have q3:=aC hB.b2 j
   rw [bH,r2_get ks j hlt] at q2
   have hx:=dA BK.out (by decide) j
   have hb1:=hB.set2 j (.int .i64 ((ks.getD j 0 &&& 15:Nat):Int))
   rw [bq,← cZ,r2_set ks j hj4] at hb1
   generalize ks.getD j 0=x at q2 hx hb1
   have hand:=QT x 15 (by omega) (by decide)
   rw [← hand] at hb1
   have HB1:=abC hb1
   have HJ4:=abC hj4
   clear hB hb1 hand hj4
   go_wp2_with fail
   go_roundw
   case rel=>exact ⟨j+4,by omega,by have:=HJ4.out;omega,by go_num,HB1.out⟩
   case measure=>simp [intOf];omega
  ·have ej:j=19:=by omega
   rw [ej,HRE2.out] at hB
   have HB:=abC hB
   clear hB ej
   go_wp2_with fail
   go_meet
   exact HB.out
 case rest =>
 clear HBA HRE2 HR23
 obtain ⟨wb,rfl⟩:∃ x:World,x=wc:=⟨_,rfl⟩
 have oK:=abC hcut
 clear hcut
 go_upto_block 4 with fail
 go_cut [] (fun wx=>B4 w wx (arr .u8 (aW ks)) (arr .u8 (aW zt)) (arr .i64 (aW rr)) (arr .i64 (aW zs)) 25 177 239 239)
 case first =>
  go_wp2_with fail
  go_loopw [9] (fun v wr=>∃ j:Nat,4≤j∧j≤16∧j % 4=0∧v = .int .i64 j∧B4 w wr (arr .u8 (aW ks)) (arr .u8 (aW zt)) (arr .i64 (aW (eH 17 (r3 ks j)))) (arr .i64 (aW zs)) 25 177 239 239) (fun v _=>16 - (intOf v).toNat)
  case atStart=>exact ⟨4,by omega,by omega,rfl,rfl,by rw [← HR34.out];exact oK.out⟩
  case round =>
  obtain ⟨j,h4,hj,hj4,rfl,hB⟩:=hrel
  by_cases hlt:j < 16
  ·have q2:=cB hB.b2 j (by rw [aG,iU];omega)
   have q3:=aC hB.b2 j
   rw [bH,r3_get ks j hlt hj4] at q2
   have hx:=dA BK.out (by decide) j
   have hb1:=hB.set2 j (.int .i64 ((ks.getD j 0 &&& 252:Nat):Int))
   rw [bq,← cZ,r3_set ks j hj4 h4] at hb1
   generalize ks.getD j 0=x at q2 hx hb1
   have hand:=QT x 252 (by omega) (by decide)
   rw [← hand] at hb1
   have HB1:=abC hb1
   have HJ4:=abC hj4
   clear hB hb1 hand hj4
   go_wp2_with fail
   go_roundw
   case rel=>exact ⟨j+4,by omega,by have:=HJ4.out;omega,by have:=HJ4.out;omega,by go_num,HB1.out⟩
   case measure=>simp [intOf];omega
  ·have ej:j=16:=by omega
   rw [ej,← HRR.out] at hB
   have HB:=abC hB
   clear hB ej
   go_wp2_with fail
   go_meet
   exact HB.out
 case rest =>
 clear oK HR34 HRR
 obtain ⟨wc1,rfl⟩:∃ x:World,x=wc:=⟨_,rfl⟩
 have Rn:=abC hcut
 clear hcut
 go_upto_block 6 with fail
 go_cut [] (fun wx=>∃ hr:List Nat,hr.length=17∧(∀ x∈hr,x < 266)∧val 256 hr < 2 ^ 131∧val 256 hr % (2 ^ 130 - 5)=acc R m ((m.length+15) / 16)∧B4 w wx (arr .u8 (aW ks)) (arr .u8 (aW zt)) (arr .i64 (aW rr)) (arr .i64 (aW hr)) 25 177 239 239)
 case first =>
  go_wp2_with fail
  go_loopw [10] (fun v wr=>∃ (q f:Nat) (hr:List Nat),f=16 * q∧f < n+16∧v = .int .i64 f∧hr.length=17∧(∀ x∈hr,x < 266)∧val 256 hr < 2 ^ 131∧val 256 hr % (2 ^ 130 - 5)=acc R m q∧B4 w wr (arr .u8 (aW ks)) (arr .u8 (aW zt)) (arr .i64 (aW rr)) (arr .i64 (aW hr)) 25 177 239 239) (fun v _=>n+16 - (intOf v).toNat)
  case atStart=>exact ⟨0,0,zs,rfl,by omega,rfl,uz.out,by rw [HZE.out];simp,by rw [HZE.out,mI];decide,by rw [HZE.out,mI];rfl,Rn.out⟩
  case round =>
  obtain ⟨q,f,hr,hf,hfn,rfl,hl,FZ,Qr,hacc,hB⟩:=hrel
  by_cases hlt:f < n
  ·obtain ⟨k,hk⟩:∃ k,k=min 16 (m.length - f):=⟨_,rfl⟩
   have hk1:k≤16:=by omega
   have hk2:f+k≤m.length:=by have:=uE.out;omega
   have hk3:f+k≤n:=by rw [← uE.out];exact hk2
   have hkn:k=16∧16≤n - f∨k=n - f∧n - f < 16:=by have:=uE.out;omega
   have HF:=abC hf
   have HL:=abC hl
   have H266:=abC FZ
   have H131:=abC Qr
   have HACC:=abC hacc
   have HBK:=abC hk
   have wI:=abC hk2
   have HB:=abC hB
   have HKN:=abC hkn
   have hsz:=aV hB.b3
   clear hf hl FZ Qr hacc hk hk2 hB hkn
   have j1:IntKind.i64.wrap ((n:Int) - (f:Int))=(n:Int) - (f:Int):=IntWalk.i64_in _ (by omega)
   go_upto_if 59 with (first|((with_reducible refine aS 11 ?_);refine ah rfl 239 rfl _ (HZ.out _) ?_))
   have HBa:=abC (HB.out.alloc (.cells (arr .i64 (aW zs)) 239))
   have HCa:=abC (aH wr (.cells (arr .i64 (aW zs)) 239))
   obtain ⟨gc,hgc⟩:∃ g,g=wr.heap.size:=⟨_,rfl⟩
   rw [← hgc] at HCa hsz ⊢
   generalize wr.alloc (.cells (arr .i64 (aW zs)) 239)=wA at HBa HCa ⊢
   clear hgc HB
   go_cut [12] (fun u12 wx=>u12 = .int .i64 (k:Int)∧wx=wA)
   case first =>
    rcases HKN.out with ⟨h1,h2⟩|⟨h1,h2⟩
    ·by_cases h3:n - f=16
     ·have e3:(n:Int) - (f:Int)=16:=by omega
      have ek:(k:Int)=16:=by omega
      clear h1 h2 h3
      go_wp2_with fail
      go_meet
      exact ⟨by rw [ek,e3],rfl⟩
     ·have e3:(16:Int) < (n:Int) - (f:Int):=by omega
      have ek:(k:Int)=16:=by omega
      clear h1 h2 h3
      go_wp2_with fail
      go_meet
      exact ⟨by rw [ek],rfl⟩
    ·have e3:(n:Int) - (f:Int) < 16:=by omega
     have ek:(k:Int)=(n:Int) - (f:Int):=by omega
     clear h1 h2
     go_wp2_with fail
     go_meet
     exact ⟨by rw [ek],rfl⟩
   case rest =>
   obtain ⟨rfl,hwc⟩:=hcut
   obtain ⟨wB,hwB⟩:∃ x:World,x=wc:=⟨_,rfl⟩
   rw [← hwB] at hwc ⊢
   clear hwB
   subst hwc
   obtain ⟨er,her⟩:∃ er:Nat→List Nat,er=fun i=>(m.drop f).take i ++ abD (17 - i) 0:=⟨_,rfl⟩
   obtain ⟨cr,hcr⟩:∃ cr,cr=(m.drop f).take k ++ 1 :: abD (16 - k) 0:=⟨_,rfl⟩
   have er0:zs=er 0:=by rw [her,HZE.out];simp
   have ers:∀ i,f+i < m.length→i < 17→(er i).set i (m.getD (f+i) 0)=er (i+1):=by rw [her];exact fun i h1 h2=>e_step m f i h1 h2
   have erl:∀ i,f+i≤m.length→i≤17→(er i).length=17:=by
    rw [her];intro i h1 h2
    show ((m.drop f).take i ++ abD (17 - i) 0).length=17
    rw [List.length_append,vC _ _ _ h1,List.length_replicate];omega
   have ere:(er k).set k 1=cr:=by rw [her,hcr];exact e_one m f k wI.out hk1
   have crl:cr.length=17:=by rw [hcr];exact e_len m f k wI.out hk1
   have crb:∀ x∈cr,x < 256:=by rw [hcr];exact e_lt m f k HMB.out
   have crv:val 256 cr=val 256 ((m.drop f).take 16 ++ [1]):=by rw [hcr];exact e_val m f k HBK.out
   rw [er0] at HCa
   obtain ⟨af,haf⟩:∃ af,af=addr hr cr:=⟨_,rfl⟩
   have af0:hr=af 0:=by rw [haf,Ux hr cr HL.out]
   have afl:∀ i,(af i).length=17:=by rw [haf];exact Z6 hr cr
   have afg:∀ i,i < 17→(af i).getD i 0=hr.getD i 0:=by rw [haf];exact Z7 hr cr
   have afs:∀ i,(af i).set i (hr.getD i 0+cr.getD i 0)=af (i+1):=by rw [haf];exact Z5 hr cr
   obtain ⟨a17,Y3⟩:∃ x,x=af 17:=⟨_,rfl⟩
   have afb:∀ x∈a17,x < 2 ^ 20:=by rw [Y3,haf];exact addr_lt hr cr H266.out crb
   have a17l:a17.length=17:=by rw [Y3];exact afl 17
   have hT:=fun w=>RO a17 rr w a17l RRL.out afb HE2.out
   have hstep:∀ v,fold v % (2 ^ 130 - 5)=val 256 a17 * val 256 rr % (2 ^ 130 - 5)→fold v % (2 ^ 130 - 5)=acc R m (q+1):=by
    intro v hv
    rw [Y3,haf] at hv
    exact ZT m hr cr rr q f R _ HF.out HACC.out crv HE1.out (Z8 hr cr HL.out crl) hv
   have ER:=abC ers
   have ERL:=abC erl
   have ERE:=abC ere
   have CRL:=abC crl
   have CRB:=abC crb
   have AF0:=abC af0
   have AFL:=abC afl
   have AFG:=abC afg
   have AFS:=abC afs
   have A17:=abC Y3
   have A17L:=abC a17l
   have HT:=abC hT
   have HSTEP:=abC hstep
   clear her hcr er0 ers erl ere crl crb crv haf af0 afl afg afs Y3 afb a17l hT hstep
   go_wp2_with fail
   go_loopw [13] (fun v wr=>∃ i:Nat,i≤k∧v = .int .i64 i∧wr.heap[gc]? = some (.cells (arr .i64 (aW (er i))) 239 (0,0))∧B4 w wr (arr .u8 (aW ks)) (arr .u8 (aW zt)) (arr .i64 (aW rr)) (arr .i64 (aW hr)) 25 177 239 239) (fun v _=>k - (intOf v).toNat)
   case atStart=>exact ⟨0,abG _,rfl,HCa.out,HBa.out⟩
   case round =>
   obtain ⟨i,hi,rfl,hC,hB⟩:=hrel
   by_cases hlti:i < k
   ·obtain ⟨ad,rfl,hcc⟩:=HS.out.cell (f+i) (by omega)
    have x2:=eD hB.below hcc
    rw [bH] at x2
    have hxb:=dA HMB.out (by decide) (f+i)
    have hst:=ER.out i (by have:=wI.out;omega) (by omega)
    generalize m.getD (f+i) 0=x at x2 hxb hst
    have q3:=aC hC i
    have q2:=cB hC i (by rw [aG,ERL.out i (by have:=wI.out;omega) (by omega)];omega)
    have hc1:(wr.setCell ⟨gc,i,none⟩ (.int .i64 (x:Int))).heap[gc]? = some (.cells (arr .i64 (aW (er (i+1)))) 239 (0,0)):=by
     rw [aQ hC,bq,← cZ,hst]
    have xB:=abC hc1
    have HB1:=abC (hB.far gc i (.int .i64 (x:Int)) hsz)
    have j2:IntKind.i64.wrap ((f:Int)+(i:Int))=(f:Int)+(i:Int):=IntWalk.i64_in _ (by omega)
    have hi17:(i:Int) < 17:=by omega
    have n2:((f:Int)+(i:Int)).toNat=f+i:=by omega
    have n3:(f:Int)+(i:Int) < (n:Int):=by omega
    clear hC hB hc1 hst hcc
    go_wp2_with fail
    go_roundw
    case rel=>exact ⟨i+1,by omega,by go_num,xB.out,HB1.out⟩
    case measure=>simp [intOf];omega
   ·have ei:i=k:=by omega
    rw [ei] at hC
    have q3:=aC hC k
    have q2:=cB hC k (by rw [aG,ERL.out k (by have:=wI.out;omega) (by omega)];omega)
    have hc1:(wr.setCell ⟨gc,k,none⟩ (.int .i64 1)).heap[gc]? = some (.cells (arr .i64 (aW cr)) 239 (0,0)):=by
     rw [aQ hC,show (1:Int)=((1:Nat):Int) from rfl,bq,← cZ,ERE.out]
    have xB:=abC hc1
    have HB1:=abC (hB.far gc k (.int .i64 1) hsz)
    have hk17:(k:Int) < 17:=by omega
    clear hC hB hc1 ei
    go_wp2_with fail
    generalize Value.bool (decide ((i:Int) < k))=u62'
    clear HCa HBa q2 q3
    go_loopw [14] (fun v wr=>∃ t:Nat,t≤17∧v = .int .i64 t∧wr.heap[gc]? = some (.cells (arr .i64 (aW cr)) 239 (0,0))∧B4 w wr (arr .u8 (aW ks)) (arr .u8 (aW zt)) (arr .i64 (aW rr)) (arr .i64 (aW (af t))) 25 177 239 239) (fun v _=>17 - (intOf v).toNat)
    case atStart=>exact ⟨0,abG _,rfl,xB.out,by rw [← AF0.out];exact HB1.out⟩
    clear xB HB1
    case round =>
    obtain ⟨t,ht,rfl,hC,hB⟩:=hrel
    by_cases hltt:t < 17
    ·have q0:=cB hB.b3 t (by rw [aG,AFL.out];omega)
     have q1:=cB hC t (by rw [aG,CRL.out];omega)
     have q3:=aC hB.b3 t
     rw [bH,AFG.out t hltt] at q0
     rw [bH] at q1
     have hx:=dA H266.out (by decide) t
     have hy:=dA CRB.out (by decide) t
     have hst:=AFS.out t
     generalize hr.getD t 0=x at q0 hx hst
     generalize cr.getD t 0=y at q1 hy hst
     have hb1:=hB.set3 t (.int .i64 ((x:Int)+(y:Int)))
     rw [show (x:Int)+(y:Int)=((x+y:Nat):Int) by omega,bq,← cZ,hst,show ((x+y:Nat):Int)=(x:Int)+(y:Int) by omega] at hb1
     have HB1:=abC hb1
     have hc1:(wr.setCell ⟨w.heap.size+1+1+1,t,none⟩ (.int .i64 ((x:Int)+(y:Int)))).heap[gc]? = some (.cells (arr .i64 (aW cr)) 239 (0,0)):=ay hC _ (by omega)
     have xB:=abC hc1
     clear hC hB hb1 hc1 hst
     go_wp2_with fail
     go_region
     clear q0 q1 q3
     go_wp2_with fail
     go_roundw
     case rel=>exact ⟨t+1,by omega,by go_num,xB.out,HB1.out.drew⟩
     case measure=>simp [intOf];omega
    ·have et:t=17:=by omega
     rw [et,← A17.out] at hB
     have HB1:=abC hB
     clear hB hC et
     go_wp2_with (first|((with_reducible refine aS 89 ?_);refine aB rfl 239 _ rfl (w.heap.size+1+1+1) 0 _ 239 (0,0) _ HB1.out.b3 rfl .i64 (aW a17) (aj _ _) Tryz.underlying239 rfl (nR a17 A17L.out) ?_)|((with_reducible refine aS 90 ?_);refine aB rfl 239 _ rfl (w.heap.size+1+1) 0 _ 239 (0,0) _ HB1.out.b2 rfl .i64 (aW rr) (aj _ _) Tryz.underlying239 rfl (nR rr RRL.out) ?_)|((with_reducible show Calls _ _ _ _ _);go_at_call 207; refine (HT.out _).mono ?_;rintro e w5 ⟨⟨v,rfl,hv1,hv2⟩,hbw⟩;have gy:=abC (HB1.out.after hbw);have HV1:=abC hv1;have HV2:=abC hv2;obtain ⟨pv,hpv⟩:∃ x,x=pk v:=⟨_,rfl⟩;have PVL:Hid (pv.length=17):=abC (by rw [hpv,KU]);rw [← hpv];have HPV:=abC hpv;clear hbw hv1 hv2 hpv)|((with_reducible show wpList _ _ _ (Oper.mk none _ _ _ _ _ :: _) _ _);refine au rfl 239 _ _ rfl (w.heap.size+1+1+1) _ _ 239 gy.out.b3 rfl rfl ((kE pv PVL.out).trans (kE a17 A17L.out).symm) (ku pv PVL.out) (ak _ _) ?_;intro w7 jh qP Cy;have fC:=abC (gy.out.put3 qP jh);clear jh qP Cy))
     (try simp only [Act.put])
     go_roundw
     case rel=>exact ⟨q+1,f+16,pv,by have:=HF.out;omega,by omega,by go_num,PVL.out,by rw [HPV.out];exact WI v HV1.out,by rw [HPV.out,yU];have:=(AV v HV1.out).1;omega,by rw [HPV.out,yU];exact HSTEP.out v HV2.out,fC.out⟩
     case measure=>simp [intOf];omega
  ·have eq:q=(m.length+15) / 16:=by rw [uE.out];omega
   rw [eq] at hacc
   have HL:=abC hl
   have H266:=abC FZ
   have H131:=abC Qr
   have HACC:=abC hacc
   have HB:=abC hB
   clear hl FZ Qr hacc hB hf eq
   go_wp2_with fail
   go_meet
   exact ⟨hr,HL.out,H266.out,H131.out,HACC.out,HB.out⟩
 case rest =>
 obtain ⟨wd,rfl⟩:∃ x:World,x=wc:=⟨_,rfl⟩
 obtain ⟨hr,hl,h266,h131,hacc,hB⟩:=hcut
 have hW:=fun w=>RF hr w hl (fun x hx=>by have:=h266 x hx;omega) h131
 rw [hacc] at hW
 obtain ⟨a,ha⟩:∃ x,x=acc R m ((m.length+15) / 16):=⟨_,rfl⟩
 obtain ⟨kh,hkh⟩:∃ x,x=ks.drop 16:=⟨_,rfl⟩
 obtain ⟨tg,Qt⟩:∃ x,x=KC ks m:=⟨_,rfl⟩
 have khl:kh.length=16:=by rw [hkh,abI,LK.out]
 have khb:∀ x∈kh,x < 256:=by rw [hkh];exact fun x hx=>BK.out x (List.mem_of_mem_drop hx)
 have khg:∀ i,ks.getD (16+i) 0=kh.getD i 0:=by intro i;rw [hkh];simp [List.getD]
 have hend:zU (bD 256 17 a) kh 16=tg:=by rw [Xg a kh khl,Qt,KC,← HRV.out,← ha,hkh]
 rw [← ha] at hW
 obtain ⟨hw,hhw⟩:∃ x,x=bD 256 17 a:=⟨_,rfl⟩
 rw [← hhw] at hend hW
 have hwl:hw.length=17:=by rw [hhw,aK]
 have hwb:∀ x∈hw,x < 256:=by rw [hhw];exact iw 256 (by decide) _ _
 obtain ⟨mf,hmf⟩:∃ mf:Nat→List Nat,mf=zU hw kh:=⟨_,rfl⟩
 have mfl:∀ i,i≤16→(mf i).length=16:=by rw [hmf];exact Xf hw kh
 have mfs:∀ i u,i < 16→u=(val 256 (hw.take i)+val 256 (kh.take i)) / 256 ^ i→(mf i).set i ((u+hw.getD i 0+kh.getD i 0) % 256)=mf (i+1)∧(u+hw.getD i 0+kh.getD i 0) / 256=(val 256 (hw.take (i+1))+val 256 (kh.take (i+1))) / 256 ^ (i+1):=by
  rw [hmf];exact fun i u h1 h2=>Tc hw kh i u h1 (by omega) (by omega) h2
 have mf0:zt=mf 0:=by rw [hmf,HZTE.out];simp [zU,bD]
 have mfe:mf 16=tg:=by rw [hmf];exact hend
 have mfc:∀ i,i≤16→(val 256 (hw.take i)+val 256 (kh.take i)) / 256 ^ i≤2:=fun i hi=>Ld hw kh i hwb khb (by omega) (by omega)
 obtain ⟨cf,hcf⟩:∃ cf:Nat→Nat,cf=fun i=>(val 256 (hw.take i)+val 256 (kh.take i)) / 256 ^ i:=⟨_,rfl⟩
 have cf0:0=cf 0:=by rw [hcf];simp [val]
 have mfs':∀ i u,i < 16→u=cf i→(mf i).set i ((u+hw.getD i 0+kh.getD i 0) % 256)=mf (i+1)∧(u+hw.getD i 0+kh.getD i 0) / 256=cf (i+1):=by rw [hcf];exact mfs
 have mfc':∀ i,i≤16→cf i≤2:=by rw [hcf];exact mfc
 have tgl:tg.length=16:=by rw [Qt,KC,aK]
 have HL:=abC hl
 have HB:=abC hB
 have HW:=abC hW
 have KHB:=abC khb
 have KHG:=abC khg
 have qV:=abC hwl
 have HWB:=abC hwb
 have MFL:=abC mfl
 have MFS:=abC mfs'
 have MF0:=abC mf0
 have MFE:=abC mfe
 have MFC:=abC mfc'
 have CF0:=abC cf0
 have U1:=abC tgl
 have HTG:=abC Qt
 clear hl hB hW khb khg hwl hwb mfl mfs mfs' mf0 mfe mfc mfc' cf0 tgl Qt h266 h131 hacc ha hkh khl hend hhw hmf hcf
 go_upto_block 12 with (first|((with_reducible refine aS 92 ?_);refine aB rfl 239 _ rfl (w.heap.size+1+1+1) 0 _ 239 (0,0) _ HB.out.b3 rfl .i64 (aW hr) (aj _ _) Tryz.underlying239 rfl (nR hr HL.out) ?_)|((with_reducible show Calls _ _ _ _ _);go_at_call 208; refine (HW.out _).mono ?_;rintro e w5 ⟨rfl,hbw⟩;have gy:=abC (HB.out.after hbw);clear hbw)|((with_reducible show wpList _ _ _ (Oper.mk none _ _ _ _ _ :: _) _ _);refine au rfl 239 _ _ rfl (w.heap.size+1+1+1) _ _ 239 gy.out.b3 rfl rfl ((kE hw qV.out).trans (kE hr HL.out).symm) (ku hw qV.out) (ak _ _) ?_;intro w7 jh qP Cy;have fC:=abC (gy.out.put3 qP jh);have hl7:=aV fC.out.b3;clear jh qP Cy)|((with_reducible refine aS 15 ?_);refine ah rfl 177 rfl _ (HYT.out _) ?_;go_simp))
 have gu:=abC (fC.out.alloc (.cells (arr .u8 (aW zt)) 177))
 have U4:=abC (aH w7 (.cells (arr .u8 (aW zt)) 177))
 obtain ⟨gt,hgt⟩:∃ g,g=w7.heap.size:=⟨_,rfl⟩
 rw [← hgt] at U4 hl7 ⊢
 generalize w7.alloc (.cells (arr .u8 (aW zt)) 177)=w8 at gu U4 ⊢
 clear hgt HB fC
 go_wp2_with fail
 go_loopw [16,17] (fun uv iv wr=>∃ i u:Nat,i≤16∧iv = .int .i64 i∧uv = .int .i64 u∧u=cf i∧wr.heap[gt]? = some (.cells (arr .u8 (aW (mf i))) 177 (0,0))∧B4 w wr (arr .u8 (aW ks)) (arr .u8 (aW zt)) (arr .i64 (aW rr)) (arr .i64 (aW hw)) 25 177 239 239) (fun _ iv _=>16 - (intOf iv).toNat)
 case atStart=>exact ⟨0,0,abG _,rfl,rfl,CF0.out,by rw [← MF0.out];exact U4.out,gu.out⟩
 clear U4 gu
 case round =>
 obtain ⟨i,u,hi,rfl,rfl,hu,hG,hB⟩:=hrel
 by_cases hlt:i < 16
 ·have q0:=cB hB.b3 i (by rw [aG,qV.out];omega)
  have q1:=cB hB.b0 (16+i) (by rw [aG,LK.out];omega)
  have q3:=aC hG i
  have q4:=cB hG i (by rw [aG,MFL.out i hi];omega)
  rw [bH] at q0
  rw [bH,KHG.out] at q1
  have hx:=dA HWB.out (by decide) i
  have hy:=dA KHB.out (by decide) i
  have hu2:u≤2:=by rw [hu];exact MFC.out i hi
  obtain ⟨m1,m2⟩:=MFS.out i u hlt hu
  generalize hw.getD i 0=x at q0 hx m1 m2
  generalize kh.getD i 0=y at q1 hy m1 m2
  have hand:=rO (u+x+y) (by omega)
  rw [abN,abN] at hand
  have hg1:(wr.setCell ⟨gt,i,none⟩ (.int .u8 (((u+x+y) % 256:Nat):Int))).heap[gt]? = some (.cells (arr .u8 (aW (mf (i+1)))) 177 (0,0)):=by
   rw [aQ hG,bq,← cZ,m1]
  have hwb2:IntKind.u8.wrap (bits .and .i64 ((u:Int)+(x:Int)+(y:Int)) 255)=(((u+x+y) % 256:Nat):Int):=by rw [hand,RD]
  rw [← hwb2] at hg1
  have hb1:=hB.far gt i (.int .u8 (IntKind.u8.wrap (bits .and .i64 ((u:Int)+(x:Int)+(y:Int)) 255))) hl7
  have rV:=abC hg1
  have HB1:=abC hb1
  have M2:=abC m2
  have j2:IntKind.i64.wrap (16+(i:Int))=16+(i:Int):=IntWalk.i64_in _ (by omega)
  have n2:(16+(i:Int)).toNat=16+i:=by omega
  have n3:16+(i:Int) < 32:=by omega
  clear hG hB hg1 hb1 m1 m2 hand hwb2 hu
  go_wp2_with fail
  go_region
  clear q0 q1 j2 n2 n3
  go_wp2_with fail
  go_roundw
  case rel=>exact ⟨i+1,(u+x+y) / 256,by omega,by go_num,rfl,M2.out,rV.out,HB1.out.drew⟩
  case measure=>simp [intOf];omega
 ·have ei:i=16:=by omega
  rw [ei,MFE.out] at hG
  have HB:=abC hB
  have HG:=abC hG
  clear hB hG hu ei
  go_wp2_with (first|((with_reducible refine aS 116 ?_);refine aB rfl 177 _ rfl gt 0 _ 177 (0,0) _ HG.out rfl .u8 (aW tg) (aj _ _) Tryz.underlying177 rfl (by rw [aG,U1.out];kernel_rfl) ?_)|((with_reducible show wpList _ _ _ (Oper.mk none _ _ _ _ _ :: _) _ _);refine au rfl 177 _ _ rfl (w.heap.size+1) _ _ 177 HB.out.b1 rfl rfl (by rw [aD,aD,aG,aG,U1.out,HZT.out]) (by rw [aD,aG,U1.out];kernel_rfl) (ak _ _) ?_;intro w9 dP qI XI;have oN:=abC (HB.out.IL qI dP);clear dP qI XI))
  (try simp only [Exit.inBlock,Exit.then])
  refine bodyPost_ret (results_cell_row rfl _ _ (w.heap.size+1) 177 _ (0,0) _ rfl oN.out.b1 Tryz.underlying177 rfl (by rw [aD,aG,U1.out];kernel_rfl)) rfl ?_
  exact ⟨by rw [HTG.out],oN.out.below⟩
end Go.Proofs.YthdgbgleklkaiaaGreatDoor.Po
