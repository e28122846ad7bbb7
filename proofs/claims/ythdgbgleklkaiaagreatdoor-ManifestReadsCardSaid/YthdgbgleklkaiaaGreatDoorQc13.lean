/- portcullisref1.padded, the turned words of the document's hash. portcu. Condition: as each theorem says. -/

import Derived.Test.YthdgbgleklkaiaaGreatDoorQc09
open Go.Lib renaming hid→abC
open List renaming length_append→abD,replicate→abE,append_assoc→abF,length_singleton→abI,length_cons→abK,length_replicate→abL,range_succ→abO,replicate_succ'→abP,cons_append→abQ,nil_append→abW
open Nat renaming le_trans→abG,le_refl→abJ,and_two_pow_sub_one_eq_mod→abR,mod_eq_of_lt→abU,lt_of_le_of_lt→acA,div_le_self→acB
open BitVec renaming ofInt→abH,or_comm→abM,ofInt_natCast→abS,toNat_ofNat→abT,toNat_and→abV
open Int renaming natCast_ediv→abX,natCast_mul→abY,natCast_pow→abZ
set_option linter.unusedSimpArgs false
set_option linter.unusedVariables false
set_option maxRecDepth 100000
set_option maxHeartbeats 16000000
namespace Go.Proofs.YthdgbgleklkaiaaGreatDoor.Hb
open Go.RowKit
theorem or_comm (k:IntKind) (a b:Int):bits .or k a b=bits .or k b a:=by
 unfold bits
 simp only
 rw [abM]
theorem ror_1 (x:Int) (w:World):Calls Tryz.prog 176 #[.int .u64 x, .int .u64 1] w fun e w'=>e = .returned (.int .u64 (eB x 2 9223372036854775808))∧w=w':=by
 go_enter Tryz.func176, Tryz.ntmps176
 go_wp2
 go_ret
 exact ⟨by unfold eB;rw [or_comm];rfl,rfl⟩
theorem ror_8 (x:Int) (w:World):Calls Tryz.prog 176 #[.int .u64 x, .int .u64 8] w fun e w'=>e = .returned (.int .u64 (eB x 256 72057594037927936))∧w=w':=by
 go_enter Tryz.func176, Tryz.ntmps176
 go_wp2
 go_ret
 exact ⟨by unfold eB;rw [or_comm];rfl,rfl⟩
theorem ror_14 (x:Int) (w:World):Calls Tryz.prog 176 #[.int .u64 x, .int .u64 14] w fun e w'=>e = .returned (.int .u64 (eB x 16384 1125899906842624))∧w=w':=by
 go_enter Tryz.func176, Tryz.ntmps176
 go_wp2
 go_ret
 exact ⟨by unfold eB;rw [or_comm];rfl,rfl⟩
theorem KN (x:Int) (w:World):Calls Tryz.prog 176 #[.int .u64 x, .int .u64 18] w fun e w'=>e = .returned (.int .u64 (eB x 262144 70368744177664))∧w=w':=by
 go_enter Tryz.func176, Tryz.ntmps176
 go_wp2
 go_ret
 exact ⟨by unfold eB;rw [or_comm];rfl,rfl⟩
theorem KM (x:Int) (w:World):Calls Tryz.prog 176 #[.int .u64 x, .int .u64 19] w fun e w'=>e = .returned (.int .u64 (eB x 524288 35184372088832))∧w=w':=by
 go_enter Tryz.func176, Tryz.ntmps176
 go_wp2
 go_ret
 exact ⟨by unfold eB;rw [or_comm];rfl,rfl⟩
theorem ror_28 (x:Int) (w:World):Calls Tryz.prog 176 #[.int .u64 x, .int .u64 28] w fun e w'=>e = .returned (.int .u64 (eB x 268435456 68719476736))∧w=w':=by
 go_enter Tryz.func176, Tryz.ntmps176
 go_wp2
 go_ret
 exact ⟨by unfold eB;rw [or_comm];rfl,rfl⟩
theorem ror_34 (x:Int) (w:World):Calls Tryz.prog 176 #[.int .u64 x, .int .u64 34] w fun e w'=>e = .returned (.int .u64 (eB x 17179869184 1073741824))∧w=w':=by
 go_enter Tryz.func176, Tryz.ntmps176
 go_wp2
 go_ret
 exact ⟨by unfold eB;rw [or_comm];rfl,rfl⟩
theorem ror_39 (x:Int) (w:World):Calls Tryz.prog 176 #[.int .u64 x, .int .u64 39] w fun e w'=>e = .returned (.int .u64 (eB x 549755813888 33554432))∧w=w':=by
 go_enter Tryz.func176, Tryz.ntmps176
 go_wp2
 go_ret
 exact ⟨by unfold eB;rw [or_comm];rfl,rfl⟩
theorem ror_41 (x:Int) (w:World):Calls Tryz.prog 176 #[.int .u64 x, .int .u64 41] w fun e w'=>e = .returned (.int .u64 (eB x 2199023255552 8388608))∧w=w':=by
 go_enter Tryz.func176, Tryz.ntmps176
 go_wp2
 go_ret
 exact ⟨by unfold eB;rw [or_comm];rfl,rfl⟩
theorem ror_61 (x:Int) (w:World):Calls Tryz.prog 176 #[.int .u64 x, .int .u64 61] w fun e w'=>e = .returned (.int .u64 (eB x 2305843009213693952 8))∧w=w':=by
 go_enter Tryz.func176, Tryz.ntmps176
 go_wp2
 go_ret
 exact ⟨by unfold eB;rw [or_comm];rfl,rfl⟩
def zs' (n:Nat):Nat:=(2 * 128 - 16 - 1 - n % 128) % 128
def jD (n j:Nat):List Int:=(List.range j).map fun i=>if 16 - 1 - i < 8 then ((8 * n / 2 ^ (8 * (16 - 1 - i)) % 256:Nat):Int) else 0
theorem qA (n j:Nat):jD n (j+1)=jD n j ++ [if 16 - 1 - j < 8 then ((8 * n / 2 ^ (8 * (16 - 1 - j)) % 256:Nat):Int) else 0]:=by simp [jD,abO]
theorem Ac (n:Nat):(128 :: abE (zs' n) 0) ++ jD n 16=tail n:=by
 unfold tail jD zs'
 rw [abF]
 congr 1
theorem uU (k:Nat):(128:Int) :: abE (k+1) 0=(128 :: abE k 0) ++ [0]:=by rw [abP,abQ]
theorem rO (x:Nat) (hx:x < 9223372036854775808):bits .and .i64 (x:Int) 255=((x % 256:Nat):Int):=by
 have e:x &&& 255=x % 256:=abR x 8
 have h1:(abH 64 (x:Int)).toNat=x:=by
  rw [abS,abT];exact abU (by omega)
 have h2:(abH 64 (255:Int)).toNat=255:=by decide
 show IntKind.i64.wrap ((abH 64 (x:Int) &&& abH 64 (255:Int)).toNat:Int)=_
 rw [abV,h1,h2,e,IntKind.wrap_i64]
 omega
structure oJ (w wr:World) (v:Value) (ys:List Int):Prop where
 own:aU wr w.heap.size v ys
 below:Below w.heap.size w wr
theorem oJ.snoc {w wr w':World} {v v':Value} {ys:List Int} {x:Int} (h:oJ w wr v ys) (o:Obj) (h1:aU w' w.heap.size v' (ys ++ [x])) (hg:(wr.alloc o).grownBy w' v.ownBlock):oJ w w' v' (ys ++ [x]) :=
 ⟨h1,aZ (h.own.alloc o) hg (h.below.alloc h.below.size o) (abG h.below.size (by simp))⟩
theorem ru (sa:Option Addr) (n c:Nat) (xs:List Int) (w:World) (hs:Src w sa n xs) (hn:n≤70368744177664) :
  Calls Tryz.prog 52 #[.slice sa n c, .int .i64 128, .int .i64 16] w fun e w'=>∃ v,e = .returned v∧aU w' w.heap.size v (xs ++ tail n)∧Below w.heap.size w w':=by
 have hxl:=hs.len
 have HS:=abC hs
 have jc:=abC hxl
 clear hs hxl
 go_enter Tryz.func52, Tryz.ntmps52
 go_wp2_with (first|((with_reducible refine aS 12 ?_);refine aX rfl _ _ rfl w.heap.size (.slice none 0 0) [] rfl (aU.nil _ _) sa n _ xs rfl HS.out ?_ (abJ _) ?_;(simp;omega);intro v1 w1 hown1 hgrow1 X4 hat1;rw [abW] at hown1;have hb1:Below w.heap.size w w1:=(Below.refl _ w).grown hgrow1 (abJ _) (fun k hk=>by cases hk);have UR:=abC hown1;clear hown1 hgrow1 X4 hat1)|((with_reducible refine aS 14 ?_);refine aX rfl _ _ rfl w.heap.size v1 xs rfl (UR.out.alloc _) (some ⟨w1.heap.size,0,none⟩) 1 _ [128] rfl (kL _ _) ?_ (abG hb1.size (by simp)) ?_;(rw [jc.out];omega);intro v2 w2 hown2 hgrow2 X3 hat2;have Ej:=abC (oJ.snoc ⟨UR.out,hb1⟩ _ hown2 hgrow2);clear hown2 hgrow2 X3 hat2))
 obtain ⟨s2,c2,hv2, -⟩:=Ej.out.own.form
 rw [abD,jc.out,abI] at hv2
 subst hv2
 go_loopg [7] (zs' n) (fun g m wr=>∃ (k l:Nat) (sv:Option Addr) (cv:Nat),g+k=zs' n∧l=n+1+k∧m = .slice sv l cv∧oJ w wr (.slice sv l cv) (xs ++ (128 :: abE k 0)))
 case atStart=>exact ⟨0,n+1,s2,c2,by omega,rfl,rfl,Ej.out⟩
 case round =>
  obtain ⟨k,l,sv,cv,hk,hl,rfl,hp⟩:=hrel
  obtain ⟨wo,rfl⟩:∃ wo:World,wo=wr:=⟨_,rfl⟩
  have hzs:zs' n=(2 * 128 - 16 - 1 - n % 128) % 128:=rfl
  have hmod:((l:Int) % 128)=(((n+1+k) % 128:Nat):Int):=by rw [hl];omega
  have hl1:l≤140737488355000:=by rw [hl];omega
  have HL:=abC hl
  by_cases hlt:k < zs' n
  ·have t1:(((l:Int) % 128) == 112)=false:=by rw [hmod];simp;omega
   have t2:(((l:Int) % 128) != 112)=true:=by rw [hmod];simp;omega
   have HP:=abC hp
   clear hzs hmod hp hl
   go_wp2_with ((with_reducible refine aS 25 ?_);refine aX rfl _ _ rfl w.heap.size (.slice sv l cv) (xs ++ (128 :: abE k 0)) rfl (HP.out.own.alloc _) (some ⟨wo.heap.size,0,none⟩) 1 _ [0] rfl (kL _ _) ?_ (abG HP.out.below.size (by simp)) ?_;(rw [abD,jc.out,abK,abL];have:=HL.out;omega);intro v5 w5 hown5 gJ mV vg;have qB:=oJ.snoc HP.out _ hown5 gJ;clear hown5 gJ mV vg;rw [abF,← uU] at qB;obtain ⟨s5,c5,hv5, -⟩:=qB.own.form;rw [abD,jc.out,abK,abL,show n+(k+1+1)=l+1 by have:=HL.out;omega] at hv5;subst hv5;have UN:=abC qB;clear qB)
   go_roundg (gk - 1)
   case measure=>omega
   case rel=>exact ⟨k+1,l+1,s5,c5,by omega,by have:=HL.out;omega,rfl,UN.out⟩
  ·have t1:(((l:Int) % 128) == 112)=true:=by rw [hmod];simp;omega
   have t2:(((l:Int) % 128) != 112)=false:=by rw [hmod];simp;omega
   have ek:k=zs' n:=by omega
   obtain ⟨ys,hys⟩:∃ ys,ys=xs ++ (128 :: abE k 0):=⟨_,rfl⟩
   rw [← hys] at hp
   rw [ek] at hys
   have hyl:ys.length=l:=by rw [hys,hl,ek,abD,jc.out];simp;omega
   have HYS:=abC hys
   have HYL:=abC hyl
   have HP:=abC hp
   clear hzs hmod hp hl ek hys hyl
   go_wp2_with fail
   go_loopg [7,9] 16 (fun g m i wr=>∃ (j l':Nat) (sv:Option Addr) (cv:Nat),g+j=16∧l'=l+j∧i = .int .i64 (15 - (j:Int))∧m = .slice sv l' cv∧oJ w wr (.slice sv l' cv) (ys ++ jD n j))
   case atStart=>exact ⟨0,l,sv,cv,rfl,rfl,rfl,rfl,by simpa [jD] using HP.out⟩
   case round =>
    obtain ⟨j,l',sv',cv',hj,hl',rfl,rfl,hp⟩:=hrel
    obtain ⟨wo2,rfl⟩:∃ wo2:World,wo2=wr:=⟨_,rfl⟩
    have hll:(jD n j).length=j:=by simp [jD]
    have UW:=abC hll
    have HL':=abC hl'
    have Ki:=abC hp
    clear hll hl' hp
    by_cases hlt2:j < 16
    ·by_cases h8:15 - j < 8
     ·have e1:(8 * (15 - (j:Int))).toNat=8 * (15 - j):=by omega
      have e2:0≤8 * (15 - (j:Int)):=by omega
      have e3:8 * (15 - (j:Int))≤56:=by omega
      have e4:(15:Int) - (j:Int) < 8:=by omega
      have e5:bits .and .i64 (8 * (n:Int) / 2 ^ (8 * (15 - j))) 255=((8 * n / 2 ^ (8 * (15 - j)) % 256:Nat):Int):=by
       rw [show (8 * (n:Int) / 2 ^ (8 * (15 - j)))=((8 * n / 2 ^ (8 * (15 - j)):Nat):Int) by rw [abX,abY,abZ];rfl]
       exact rO _ (acA (acB _ _) (by omega))
      have e6:jD n (j+1)=jD n j ++ [((8 * n / 2 ^ (8 * (15 - j)) % 256:Nat):Int)]:=by rw [qA,if_pos h8]
      obtain ⟨x,hx⟩:∃ x,x=8 * n / 2 ^ (8 * (15 - j)) % 256:=⟨_,rfl⟩
      have hx1:x < 256:=by rw [hx];exact Nat.mod_lt _ (by omega)
      rw [← hx] at e5 e6
      have E6:=abC e6
      clear hx e6
      go_wp2_with ((with_reducible refine aS 47 ?_);refine aX rfl _ _ rfl w.heap.size (.slice sv' l' cv') (ys ++ jD n j) rfl (Ki.out.own.alloc _) (some ⟨wo2.heap.size,0,none⟩) 1 _ [(x:Int)] rfl (kL _ _) ?_ (abG Ki.out.below.size (by simp)) ?_;(rw [abD,HYL.out,UW.out];omega);intro v5 w5 hown5 gJ mV vg;have qB:=oJ.snoc Ki.out _ hown5 gJ;clear hown5 gJ mV vg;rw [abF,← E6.out] at qB;obtain ⟨s5,c5,hv5, -⟩:=qB.own.form;rw [abD,HYL.out,E6.out,abD,UW.out,abI,show l+(j+1)=l'+1 by have:=HL'.out;omega] at hv5;subst hv5;have UN:=abC qB;clear qB)
      go_roundg (gk - 1)
      case measure=>omega
      case rel=>exact ⟨j+1,l'+1,s5,c5,by omega,by have:=HL'.out;omega,by congr 1;omega,rfl,UN.out⟩
     ·have e6:jD n (j+1)=jD n j ++ [0]:=by rw [qA,if_neg h8]
      have e4:¬ (15:Int) - (j:Int) < 8:=by omega
      have E6:=abC e6
      clear e6
      go_wp2_with ((with_reducible refine aS 47 ?_);refine aX rfl _ _ rfl w.heap.size (.slice sv' l' cv') (ys ++ jD n j) rfl (Ki.out.own.alloc _) (some ⟨wo2.heap.size,0,none⟩) 1 _ [0] rfl (kL _ _) ?_ (abG Ki.out.below.size (by simp)) ?_;(rw [abD,HYL.out,UW.out];omega);intro v5 w5 hown5 gJ mV vg;have qB:=oJ.snoc Ki.out _ hown5 gJ;clear hown5 gJ mV vg;rw [abF,← E6.out] at qB;obtain ⟨s5,c5,hv5, -⟩:=qB.own.form;rw [abD,HYL.out,E6.out,abD,UW.out,abI,show l+(j+1)=l'+1 by have:=HL'.out;omega] at hv5;subst hv5;have UN:=abC qB;clear qB)
      go_roundg (gk - 1)
      case measure=>omega
      case rel=>exact ⟨j+1,l'+1,s5,c5,by omega,by have:=HL'.out;omega,by congr 1;omega,rfl,UN.out⟩
    ·have ej:j=16:=by omega
     have hfin:aU wo2 w.heap.size (.slice sv' l' cv') (xs ++ tail n):=by
      have:=Ki.out.own
      rwa [ej,HYS.out,abF,Ac] at this
     have hbe:=Ki.out.below
     have HF:=abC hfin
     clear ej hfin
     go_wp2_with fail
     go_ret
     exact ⟨_,rfl,HF.out,hbe⟩
end Go.Proofs.YthdgbgleklkaiaaGreatDoor.Hb
namespace Go.Proofs.YthdgbgleklkaiaaGreatDoor.Ha
open Go.RowKit
theorem or_comm (k:IntKind) (a b:Int):bits .or k a b=bits .or k b a:=by
 unfold bits
 simp only
 rw [abM]
theorem ror_2 (x:Int) (w:World):Calls Tryz.prog 53 #[.int .u32 x, .int .u64 2] w fun e w'=>e = .returned (.int .u32 (eB x 4 1073741824))∧w=w':=by
 go_enter Tryz.func53, Tryz.ntmps53
 go_wp2
 go_ret
 exact ⟨by unfold eB;rw [or_comm];rfl,rfl⟩
theorem ror_6 (x:Int) (w:World):Calls Tryz.prog 53 #[.int .u32 x, .int .u64 6] w fun e w'=>e = .returned (.int .u32 (eB x 64 67108864))∧w=w':=by
 go_enter Tryz.func53, Tryz.ntmps53
 go_wp2
 go_ret
 exact ⟨by unfold eB;rw [or_comm];rfl,rfl⟩
theorem ror_7 (x:Int) (w:World):Calls Tryz.prog 53 #[.int .u32 x, .int .u64 7] w fun e w'=>e = .returned (.int .u32 (eB x 128 33554432))∧w=w':=by
 go_enter Tryz.func53, Tryz.ntmps53
 go_wp2
 go_ret
 exact ⟨by unfold eB;rw [or_comm];rfl,rfl⟩
theorem ror_11 (x:Int) (w:World):Calls Tryz.prog 53 #[.int .u32 x, .int .u64 11] w fun e w'=>e = .returned (.int .u32 (eB x 2048 2097152))∧w=w':=by
 go_enter Tryz.func53, Tryz.ntmps53
 go_wp2
 go_ret
 exact ⟨by unfold eB;rw [or_comm];rfl,rfl⟩
theorem ror_13 (x:Int) (w:World):Calls Tryz.prog 53 #[.int .u32 x, .int .u64 13] w fun e w'=>e = .returned (.int .u32 (eB x 8192 524288))∧w=w':=by
 go_enter Tryz.func53, Tryz.ntmps53
 go_wp2
 go_ret
 exact ⟨by unfold eB;rw [or_comm];rfl,rfl⟩
theorem ror_17 (x:Int) (w:World):Calls Tryz.prog 53 #[.int .u32 x, .int .u64 17] w fun e w'=>e = .returned (.int .u32 (eB x 131072 32768))∧w=w':=by
 go_enter Tryz.func53, Tryz.ntmps53
 go_wp2
 go_ret
 exact ⟨by unfold eB;rw [or_comm];rfl,rfl⟩
theorem KN (x:Int) (w:World):Calls Tryz.prog 53 #[.int .u32 x, .int .u64 18] w fun e w'=>e = .returned (.int .u32 (eB x 262144 16384))∧w=w':=by
 go_enter Tryz.func53, Tryz.ntmps53
 go_wp2
 go_ret
 exact ⟨by unfold eB;rw [or_comm];rfl,rfl⟩
theorem KM (x:Int) (w:World):Calls Tryz.prog 53 #[.int .u32 x, .int .u64 19] w fun e w'=>e = .returned (.int .u32 (eB x 524288 8192))∧w=w':=by
 go_enter Tryz.func53, Tryz.ntmps53
 go_wp2
 go_ret
 exact ⟨by unfold eB;rw [or_comm];rfl,rfl⟩
theorem ror_22 (x:Int) (w:World):Calls Tryz.prog 53 #[.int .u32 x, .int .u64 22] w fun e w'=>e = .returned (.int .u32 (eB x 4194304 1024))∧w=w':=by
 go_enter Tryz.func53, Tryz.ntmps53
 go_wp2
 go_ret
 exact ⟨by unfold eB;rw [or_comm];rfl,rfl⟩
theorem ror_25 (x:Int) (w:World):Calls Tryz.prog 53 #[.int .u32 x, .int .u64 25] w fun e w'=>e = .returned (.int .u32 (eB x 33554432 128))∧w=w':=by
 go_enter Tryz.func53, Tryz.ntmps53
 go_wp2
 go_ret
 exact ⟨by unfold eB;rw [or_comm];rfl,rfl⟩
def zs' (n:Nat):Nat:=(2 * 64 - 8 - 1 - n % 64) % 64
def jD (n j:Nat):List Int:=(List.range j).map fun i=>if 8 - 1 - i < 8 then ((8 * n / 2 ^ (8 * (8 - 1 - i)) % 256:Nat):Int) else 0
theorem qA (n j:Nat):jD n (j+1)=jD n j ++ [if 8 - 1 - j < 8 then ((8 * n / 2 ^ (8 * (8 - 1 - j)) % 256:Nat):Int) else 0]:=by simp [jD,abO]
theorem Ac (n:Nat):(128 :: abE (zs' n) 0) ++ jD n 8=tail n:=by
 unfold tail jD zs'
 rw [abF]
 congr 1
theorem uU (k:Nat):(128:Int) :: abE (k+1) 0=(128 :: abE k 0) ++ [0]:=by rw [abP,abQ]
theorem rO (x:Nat) (hx:x < 9223372036854775808):bits .and .i64 (x:Int) 255=((x % 256:Nat):Int):=by
 have e:x &&& 255=x % 256:=abR x 8
 have h1:(abH 64 (x:Int)).toNat=x:=by
  rw [abS,abT];exact abU (by omega)
 have h2:(abH 64 (255:Int)).toNat=255:=by decide
 show IntKind.i64.wrap ((abH 64 (x:Int) &&& abH 64 (255:Int)).toNat:Int)=_
 rw [abV,h1,h2,e,IntKind.wrap_i64]
 omega
structure oJ (w wr:World) (v:Value) (ys:List Int):Prop where
 own:aU wr w.heap.size v ys
 below:Below w.heap.size w wr
theorem oJ.snoc {w wr w':World} {v v':Value} {ys:List Int} {x:Int} (h:oJ w wr v ys) (o:Obj) (h1:aU w' w.heap.size v' (ys ++ [x])) (hg:(wr.alloc o).grownBy w' v.ownBlock):oJ w w' v' (ys ++ [x]) :=
 ⟨h1,aZ (h.own.alloc o) hg (h.below.alloc h.below.size o) (abG h.below.size (by simp))⟩
theorem ru (sa:Option Addr) (n c:Nat) (xs:List Int) (w:World) (hs:Src w sa n xs) (hn:n≤70368744177664) :
  Calls Tryz.prog 52 #[.slice sa n c, .int .i64 64, .int .i64 8] w fun e w'=>∃ v,e = .returned v∧aU w' w.heap.size v (xs ++ tail n)∧Below w.heap.size w w':=by
 have hxl:=hs.len
 have HS:=abC hs
 have jc:=abC hxl
 clear hs hxl
 go_enter Tryz.func52, Tryz.ntmps52
 go_wp2_with (first|((with_reducible refine aS 12 ?_);refine aX rfl _ _ rfl w.heap.size (.slice none 0 0) [] rfl (aU.nil _ _) sa n _ xs rfl HS.out ?_ (abJ _) ?_;(simp;omega);intro v1 w1 hown1 hgrow1 X4 hat1;rw [abW] at hown1;have hb1:Below w.heap.size w w1:=(Below.refl _ w).grown hgrow1 (abJ _) (fun k hk=>by cases hk);have UR:=abC hown1;clear hown1 hgrow1 X4 hat1)|((with_reducible refine aS 14 ?_);refine aX rfl _ _ rfl w.heap.size v1 xs rfl (UR.out.alloc _) (some ⟨w1.heap.size,0,none⟩) 1 _ [128] rfl (kL _ _) ?_ (abG hb1.size (by simp)) ?_;(rw [jc.out];omega);intro v2 w2 hown2 hgrow2 X3 hat2;have Ej:=abC (oJ.snoc ⟨UR.out,hb1⟩ _ hown2 hgrow2);clear hown2 hgrow2 X3 hat2))
 obtain ⟨s2,c2,hv2, -⟩:=Ej.out.own.form
 rw [abD,jc.out,abI] at hv2
 subst hv2
 go_loopg [7] (zs' n) (fun g m wr=>∃ (k l:Nat) (sv:Option Addr) (cv:Nat),g+k=zs' n∧l=n+1+k∧m = .slice sv l cv∧oJ w wr (.slice sv l cv) (xs ++ (128 :: abE k 0)))
 case atStart=>exact ⟨0,n+1,s2,c2,by omega,rfl,rfl,Ej.out⟩
 case round =>
  obtain ⟨k,l,sv,cv,hk,hl,rfl,hp⟩:=hrel
  obtain ⟨wo,rfl⟩:∃ wo:World,wo=wr:=⟨_,rfl⟩
  have hzs:zs' n=(2 * 64 - 8 - 1 - n % 64) % 64:=rfl
  have hmod:((l:Int) % 64)=(((n+1+k) % 64:Nat):Int):=by rw [hl];omega
  have hl1:l≤140737488355000:=by rw [hl];omega
  have HL:=abC hl
  by_cases hlt:k < zs' n
  ·have t1:(((l:Int) % 64) == 56)=false:=by rw [hmod];simp;omega
   have t2:(((l:Int) % 64) != 56)=true:=by rw [hmod];simp;omega
   have HP:=abC hp
   clear hzs hmod hp hl
   go_wp2_with ((with_reducible refine aS 25 ?_);refine aX rfl _ _ rfl w.heap.size (.slice sv l cv) (xs ++ (128 :: abE k 0)) rfl (HP.out.own.alloc _) (some ⟨wo.heap.size,0,none⟩) 1 _ [0] rfl (kL _ _) ?_ (abG HP.out.below.size (by simp)) ?_;(rw [abD,jc.out,abK,abL];have:=HL.out;omega);intro v5 w5 hown5 gJ mV vg;have qB:=oJ.snoc HP.out _ hown5 gJ;clear hown5 gJ mV vg;rw [abF,← uU] at qB;obtain ⟨s5,c5,hv5, -⟩:=qB.own.form;rw [abD,jc.out,abK,abL,show n+(k+1+1)=l+1 by have:=HL.out;omega] at hv5;subst hv5;have UN:=abC qB;clear qB)
   go_roundg (gk - 1)
   case measure=>omega
   case rel=>exact ⟨k+1,l+1,s5,c5,by omega,by have:=HL.out;omega,rfl,UN.out⟩
  ·have t1:(((l:Int) % 64) == 56)=true:=by rw [hmod];simp;omega
   have t2:(((l:Int) % 64) != 56)=false:=by rw [hmod];simp;omega
   have ek:k=zs' n:=by omega
   obtain ⟨ys,hys⟩:∃ ys,ys=xs ++ (128 :: abE k 0):=⟨_,rfl⟩
   rw [← hys] at hp
   rw [ek] at hys
   have hyl:ys.length=l:=by rw [hys,hl,ek,abD,jc.out];simp;omega
   have HYS:=abC hys
   have HYL:=abC hyl
   have HP:=abC hp
   clear hzs hmod hp hl ek hys hyl
   go_wp2_with fail
   go_loopg [7,9] 8 (fun g m i wr=>∃ (j l':Nat) (sv:Option Addr) (cv:Nat),g+j=8∧l'=l+j∧i = .int .i64 (7 - (j:Int))∧m = .slice sv l' cv∧oJ w wr (.slice sv l' cv) (ys ++ jD n j))
   case atStart=>exact ⟨0,l,sv,cv,rfl,rfl,rfl,rfl,by simpa [jD] using HP.out⟩
   case round =>
    obtain ⟨j,l',sv',cv',hj,hl',rfl,rfl,hp⟩:=hrel
    obtain ⟨wo2,rfl⟩:∃ wo2:World,wo2=wr:=⟨_,rfl⟩
    have hll:(jD n j).length=j:=by simp [jD]
    have UW:=abC hll
    have HL':=abC hl'
    have Ki:=abC hp
    clear hll hl' hp
    by_cases hlt2:j < 8
    ·by_cases h8:7 - j < 8
     ·have e1:(8 * (7 - (j:Int))).toNat=8 * (7 - j):=by omega
      have e2:0≤8 * (7 - (j:Int)):=by omega
      have e3:8 * (7 - (j:Int))≤56:=by omega
      have e4:(7:Int) - (j:Int) < 8:=by omega
      have e5:bits .and .i64 (8 * (n:Int) / 2 ^ (8 * (7 - j))) 255=((8 * n / 2 ^ (8 * (7 - j)) % 256:Nat):Int):=by
       rw [show (8 * (n:Int) / 2 ^ (8 * (7 - j)))=((8 * n / 2 ^ (8 * (7 - j)):Nat):Int) by rw [abX,abY,abZ];rfl]
       exact rO _ (acA (acB _ _) (by omega))
      have e6:jD n (j+1)=jD n j ++ [((8 * n / 2 ^ (8 * (7 - j)) % 256:Nat):Int)]:=by rw [qA,if_pos h8]
      obtain ⟨x,hx⟩:∃ x,x=8 * n / 2 ^ (8 * (7 - j)) % 256:=⟨_,rfl⟩
      have hx1:x < 256:=by rw [hx];exact Nat.mod_lt _ (by omega)
      rw [← hx] at e5 e6
      have E6:=abC e6
      clear hx e6
      go_wp2_with ((with_reducible refine aS 47 ?_);refine aX rfl _ _ rfl w.heap.size (.slice sv' l' cv') (ys ++ jD n j) rfl (Ki.out.own.alloc _) (some ⟨wo2.heap.size,0,none⟩) 1 _ [(x:Int)] rfl (kL _ _) ?_ (abG Ki.out.below.size (by simp)) ?_;(rw [abD,HYL.out,UW.out];omega);intro v5 w5 hown5 gJ mV vg;have qB:=oJ.snoc Ki.out _ hown5 gJ;clear hown5 gJ mV vg;rw [abF,← E6.out] at qB;obtain ⟨s5,c5,hv5, -⟩:=qB.own.form;rw [abD,HYL.out,E6.out,abD,UW.out,abI,show l+(j+1)=l'+1 by have:=HL'.out;omega] at hv5;subst hv5;have UN:=abC qB;clear qB)
      go_roundg (gk - 1)
      case measure=>omega
      case rel=>exact ⟨j+1,l'+1,s5,c5,by omega,by have:=HL'.out;omega,by congr 1;omega,rfl,UN.out⟩
     ·exfalso;omega
    ·have ej:j=8:=by omega
     have hfin:aU wo2 w.heap.size (.slice sv' l' cv') (xs ++ tail n):=by
      have:=Ki.out.own
      rwa [ej,HYS.out,abF,Ac] at this
     have hbe:=Ki.out.below
     have HF:=abC hfin
     clear ej hfin
     go_wp2_with fail
     go_ret
     exact ⟨_,rfl,HF.out,hbe⟩
end Go.Proofs.YthdgbgleklkaiaaGreatDoor.Ha
