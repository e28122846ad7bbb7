/- portcullisref1.padded, the turned words of the document's hash. portcullisref1.padded, the turned words of the document's hash. Condition: as each theorem says. -/
import Derived.Deep.LoopGhost
import Derived.Test.YthdgbgleklkaiaaDoorQa04
import Derived.Test.YthdgbgleklkaiaaDoorQa05
set_option linter.unusedSimpArgs false
set_option linter.unusedVariables false
set_option maxRecDepth 100000
set_option maxHeartbeats 16000000
namespace Go.Proofs.YthdgbgleklkaiaaDoor.Hb
open Go.RowKit
theorem or_comm (k:IntKind) (a b:Int):bits .or k a b=bits .or k b a:=by
 unfold bits
 simp only
 rw [BitVec.or_comm]
theorem ror_1 (x:Int) (w:World):Calls Tryd.prog 85 #[.int .u64 x, .int .u64 1] w fun e w'=>e = .returned (.int .u64 (eU x 2 9223372036854775808))∧w=w':=by
 go_enter Tryd.func85, Tryd.ntmps85
 go_wp2
 go_ret
 exact ⟨by unfold eU;rw [or_comm];rfl,rfl⟩
theorem ror_8 (x:Int) (w:World):Calls Tryd.prog 85 #[.int .u64 x, .int .u64 8] w fun e w'=>e = .returned (.int .u64 (eU x 256 72057594037927936))∧w=w':=by
 go_enter Tryd.func85, Tryd.ntmps85
 go_wp2
 go_ret
 exact ⟨by unfold eU;rw [or_comm];rfl,rfl⟩
theorem ror_14 (x:Int) (w:World):Calls Tryd.prog 85 #[.int .u64 x, .int .u64 14] w fun e w'=>e = .returned (.int .u64 (eU x 16384 1125899906842624))∧w=w':=by
 go_enter Tryd.func85, Tryd.ntmps85
 go_wp2
 go_ret
 exact ⟨by unfold eU;rw [or_comm];rfl,rfl⟩
theorem JF (x:Int) (w:World):Calls Tryd.prog 85 #[.int .u64 x, .int .u64 18] w fun e w'=>e = .returned (.int .u64 (eU x 262144 70368744177664))∧w=w':=by
 go_enter Tryd.func85, Tryd.ntmps85
 go_wp2
 go_ret
 exact ⟨by unfold eU;rw [or_comm];rfl,rfl⟩
theorem JE (x:Int) (w:World):Calls Tryd.prog 85 #[.int .u64 x, .int .u64 19] w fun e w'=>e = .returned (.int .u64 (eU x 524288 35184372088832))∧w=w':=by
 go_enter Tryd.func85, Tryd.ntmps85
 go_wp2
 go_ret
 exact ⟨by unfold eU;rw [or_comm];rfl,rfl⟩
theorem ror_28 (x:Int) (w:World):Calls Tryd.prog 85 #[.int .u64 x, .int .u64 28] w fun e w'=>e = .returned (.int .u64 (eU x 268435456 68719476736))∧w=w':=by
 go_enter Tryd.func85, Tryd.ntmps85
 go_wp2
 go_ret
 exact ⟨by unfold eU;rw [or_comm];rfl,rfl⟩
theorem ror_34 (x:Int) (w:World):Calls Tryd.prog 85 #[.int .u64 x, .int .u64 34] w fun e w'=>e = .returned (.int .u64 (eU x 17179869184 1073741824))∧w=w':=by
 go_enter Tryd.func85, Tryd.ntmps85
 go_wp2
 go_ret
 exact ⟨by unfold eU;rw [or_comm];rfl,rfl⟩
theorem ror_39 (x:Int) (w:World):Calls Tryd.prog 85 #[.int .u64 x, .int .u64 39] w fun e w'=>e = .returned (.int .u64 (eU x 549755813888 33554432))∧w=w':=by
 go_enter Tryd.func85, Tryd.ntmps85
 go_wp2
 go_ret
 exact ⟨by unfold eU;rw [or_comm];rfl,rfl⟩
theorem ror_41 (x:Int) (w:World):Calls Tryd.prog 85 #[.int .u64 x, .int .u64 41] w fun e w'=>e = .returned (.int .u64 (eU x 2199023255552 8388608))∧w=w':=by
 go_enter Tryd.func85, Tryd.ntmps85
 go_wp2
 go_ret
 exact ⟨by unfold eU;rw [or_comm];rfl,rfl⟩
theorem ror_61 (x:Int) (w:World):Calls Tryd.prog 85 #[.int .u64 x, .int .u64 61] w fun e w'=>e = .returned (.int .u64 (eU x 2305843009213693952 8))∧w=w':=by
 go_enter Tryd.func85, Tryd.ntmps85
 go_wp2
 go_ret
 exact ⟨by unfold eU;rw [or_comm];rfl,rfl⟩
def zs' (n:Nat):Nat:=(2 * 128 - 16 - 1 - n % 128) % 128
def jm (n j:Nat):List Int:=(List.range j).map fun i=>if 16 - 1 - i < 8 then ((8 * n / 2 ^ (8 * (16 - 1 - i)) % 256:Nat):Int) else 0
theorem qp (n j:Nat):jm n (j+1)=jm n j ++ [if 16 - 1 - j < 8 then ((8 * n / 2 ^ (8 * (16 - 1 - j)) % 256:Nat):Int) else 0]:=by simp [jm,List.range_succ]
theorem zw (n:Nat):(128 :: List.replicate (zs' n) 0) ++ jm n 16=tail n:=by
 unfold tail jm zs'
 rw [List.append_assoc]
 congr 1
theorem uW (k:Nat):(128:Int) :: List.replicate (k+1) 0=(128 :: List.replicate k 0) ++ [0]:=by rw [List.replicate_succ',List.cons_append]
theorem rE (x:Nat) (hx:x < 9223372036854775808):bits .and .i64 (x:Int) 255=((x % 256:Nat):Int):=by
 have e:x &&& 255=x % 256:=Nat.and_two_pow_sub_one_eq_mod x 8
 have h1:(BitVec.ofInt 64 (x:Int)).toNat=x:=by
  rw [BitVec.ofInt_natCast,BitVec.toNat_ofNat];exact Nat.mod_eq_of_lt (by omega)
 have h2:(BitVec.ofInt 64 (255:Int)).toNat=255:=by decide
 show IntKind.i64.wrap ((BitVec.ofInt 64 (x:Int) &&& BitVec.ofInt 64 (255:Int)).toNat:Int)=_
 rw [BitVec.toNat_and,h1,h2,e,IntKind.wrap_i64]
 omega
structure oC (w wr:World) (v:Value) (ys:List Int):Prop where
 own:aV wr w.heap.size v ys
 below:Below w.heap.size w wr
theorem oC.snoc {w wr w':World} {v v':Value} {ys:List Int} {x:Int} (h:oC w wr v ys) (o:Obj) (h1:aV w' w.heap.size v' (ys ++ [x])) (hg:(wr.alloc o).grownBy w' v.ownBlock):oC w w' v' (ys ++ [x]) :=
 ⟨h1,aQ (h.own.alloc o) hg (h.below.alloc h.below.size o) (Nat.le_trans h.below.size (by simp))⟩
theorem qX (sa:Option Addr) (n c:Nat) (xs:List Int) (w:World) (hs:Src w sa n xs) (hn:n≤70368744177664) :
  Calls Tryd.prog 28 #[.slice sa n c, .int .i64 128, .int .i64 16] w fun e w'=>∃ v,e = .returned v∧aV w' w.heap.size v (xs ++ tail n)∧Below w.heap.size w w':=by
 have hxl:=hs.len
 have HS:=Lib.hid hs
 have iG:=Lib.hid hxl
 clear hs hxl
 go_enter Tryd.func28, Tryd.ntmps28
 go_wp2_with (first|((with_reducible refine aS 12 ?_);refine aO rfl _ _ rfl w.heap.size (.slice none 0 0) [] rfl (aV.nil _ _) sa n _ xs rfl HS.out ?_ (Nat.le_refl _) ?_;(simp;omega);intro v1 w1 hown1 hgrow1 VR hat1;rw [List.nil_append] at hown1;have hb1:Below w.heap.size w w1:=(Below.refl _ w).grown hgrow1 (Nat.le_refl _) (fun k hk=>by cases hk);have Sz:=Lib.hid hown1;clear hown1 hgrow1 VR hat1)|((with_reducible refine aS 14 ?_);refine aO rfl _ _ rfl w.heap.size v1 xs rfl (Sz.out.alloc _) (some ⟨w1.heap.size,0,none⟩) 1 _ [128] rfl (kD _ _) ?_ (Nat.le_trans hb1.size (by simp)) ?_;(rw [iG.out];omega);intro v2 w2 hown2 hgrow2 VQ hat2;have EZ:=Lib.hid (oC.snoc ⟨Sz.out,hb1⟩ _ hown2 hgrow2);clear hown2 hgrow2 VQ hat2))
 obtain ⟨s2,c2,hv2, -⟩:=EZ.out.own.form
 rw [List.length_append,iG.out,List.length_singleton] at hv2
 subst hv2
 go_loopg [7] (zs' n) (fun g m wr=>∃ (k l:Nat) (sv:Option Addr) (cv:Nat),g+k=zs' n∧l=n+1+k∧m = .slice sv l cv∧oC w wr (.slice sv l cv) (xs ++ (128 :: List.replicate k 0)))
 case atStart=>exact ⟨0,n+1,s2,c2,by omega,rfl,rfl,EZ.out⟩
 case round =>
  obtain ⟨k,l,sv,cv,hk,hl,rfl,hp⟩:=hrel
  obtain ⟨wo,rfl⟩:∃ wo:World,wo=wr:=⟨_,rfl⟩
  have hzs:zs' n=(2 * 128 - 16 - 1 - n % 128) % 128:=rfl
  have hmod:((l:Int) % 128)=(((n+1+k) % 128:Nat):Int):=by rw [hl];omega
  have hl1:l≤140737488355000:=by rw [hl];omega
  have HL:=Lib.hid hl
  by_cases hlt:k < zs' n
  ·have t1:(((l:Int) % 128) == 112)=false:=by rw [hmod];simp;omega
   have t2:(((l:Int) % 128) != 112)=true:=by rw [hmod];simp;omega
   have HP:=Lib.hid hp
   clear hzs hmod hp hl
   go_wp2_with ((with_reducible refine aS 25 ?_);refine aO rfl _ _ rfl w.heap.size (.slice sv l cv) (xs ++ (128 :: List.replicate k 0)) rfl (HP.out.own.alloc _) (some ⟨wo.heap.size,0,none⟩) 1 _ [0] rfl (kD _ _) ?_ (Nat.le_trans HP.out.below.size (by simp)) ?_;(rw [List.length_append,iG.out,List.length_cons,List.length_replicate];have:=HL.out;omega);intro v5 w5 hown5 fZ mI u6;have qw:=oC.snoc HP.out _ hown5 fZ;clear hown5 fZ mI u6;rw [List.append_assoc,← uW] at qw;obtain ⟨s5,c5,hv5, -⟩:=qw.own.form;rw [List.length_append,iG.out,List.length_cons,List.length_replicate,show n+(k+1+1)=l+1 by have:=HL.out;omega] at hv5;subst hv5;have Sr:=Lib.hid qw;clear qw)
   go_roundg (gk - 1)
   case measure=>omega
   case rel=>exact ⟨k+1,l+1,s5,c5,by omega,by have:=HL.out;omega,rfl,Sr.out⟩
  ·have t1:(((l:Int) % 128) == 112)=true:=by rw [hmod];simp;omega
   have t2:(((l:Int) % 128) != 112)=false:=by rw [hmod];simp;omega
   have ek:k=zs' n:=by omega
   obtain ⟨ys,hys⟩:∃ ys,ys=xs ++ (128 :: List.replicate k 0):=⟨_,rfl⟩
   rw [← hys] at hp
   rw [ek] at hys
   have hyl:ys.length=l:=by rw [hys,hl,ek,List.length_append,iG.out];simp;omega
   have HYS:=Lib.hid hys
   have HYL:=Lib.hid hyl
   have HP:=Lib.hid hp
   clear hzs hmod hp hl ek hys hyl
   go_wp2_with fail
   go_loopg [7,9] 16 (fun g m i wr=>∃ (j l':Nat) (sv:Option Addr) (cv:Nat),g+j=16∧l'=l+j∧i = .int .i64 (15 - (j:Int))∧m = .slice sv l' cv∧oC w wr (.slice sv l' cv) (ys ++ jm n j))
   case atStart=>exact ⟨0,l,sv,cv,rfl,rfl,rfl,rfl,by simpa [jm] using HP.out⟩
   case round =>
    obtain ⟨j,l',sv',cv',hj,hl',rfl,rfl,hp⟩:=hrel
    obtain ⟨wo2,rfl⟩:∃ wo2:World,wo2=wr:=⟨_,rfl⟩
    have hll:(jm n j).length=j:=by simp [jm]
    have SA:=Lib.hid hll
    have HL':=Lib.hid hl'
    have Jg:=Lib.hid hp
    clear hll hl' hp
    by_cases hlt2:j < 16
    ·by_cases h8:15 - j < 8
     ·have e1:(8 * (15 - (j:Int))).toNat=8 * (15 - j):=by omega
      have e2:0≤8 * (15 - (j:Int)):=by omega
      have e3:8 * (15 - (j:Int))≤56:=by omega
      have e4:(15:Int) - (j:Int) < 8:=by omega
      have e5:bits .and .i64 (8 * (n:Int) / 2 ^ (8 * (15 - j))) 255=((8 * n / 2 ^ (8 * (15 - j)) % 256:Nat):Int):=by
       rw [show (8 * (n:Int) / 2 ^ (8 * (15 - j)))=((8 * n / 2 ^ (8 * (15 - j)):Nat):Int) by rw [Int.natCast_ediv,Int.natCast_mul,Int.natCast_pow];rfl]
       exact rE _ (Nat.lt_of_le_of_lt (Nat.div_le_self _ _) (by omega))
      have e6:jm n (j+1)=jm n j ++ [((8 * n / 2 ^ (8 * (15 - j)) % 256:Nat):Int)]:=by rw [qp,if_pos h8]
      obtain ⟨x,hx⟩:∃ x,x=8 * n / 2 ^ (8 * (15 - j)) % 256:=⟨_,rfl⟩
      have hx1:x < 256:=by rw [hx];exact Nat.mod_lt _ (by omega)
      rw [← hx] at e5 e6
      have E6:=Lib.hid e6
      clear hx e6
      go_wp2_with ((with_reducible refine aS 47 ?_);refine aO rfl _ _ rfl w.heap.size (.slice sv' l' cv') (ys ++ jm n j) rfl (Jg.out.own.alloc _) (some ⟨wo2.heap.size,0,none⟩) 1 _ [(x:Int)] rfl (kD _ _) ?_ (Nat.le_trans Jg.out.below.size (by simp)) ?_;(rw [List.length_append,HYL.out,SA.out];omega);intro v5 w5 hown5 fZ mI u6;have qw:=oC.snoc Jg.out _ hown5 fZ;clear hown5 fZ mI u6;rw [List.append_assoc,← E6.out] at qw;obtain ⟨s5,c5,hv5, -⟩:=qw.own.form;rw [List.length_append,HYL.out,E6.out,List.length_append,SA.out,List.length_singleton,show l+(j+1)=l'+1 by have:=HL'.out;omega] at hv5;subst hv5;have Sr:=Lib.hid qw;clear qw)
      go_roundg (gk - 1)
      case measure=>omega
      case rel=>exact ⟨j+1,l'+1,s5,c5,by omega,by have:=HL'.out;omega,by congr 1;omega,rfl,Sr.out⟩
     ·have e6:jm n (j+1)=jm n j ++ [0]:=by rw [qp,if_neg h8]
      have e4:¬ (15:Int) - (j:Int) < 8:=by omega
      have E6:=Lib.hid e6
      clear e6
      go_wp2_with ((with_reducible refine aS 47 ?_);refine aO rfl _ _ rfl w.heap.size (.slice sv' l' cv') (ys ++ jm n j) rfl (Jg.out.own.alloc _) (some ⟨wo2.heap.size,0,none⟩) 1 _ [0] rfl (kD _ _) ?_ (Nat.le_trans Jg.out.below.size (by simp)) ?_;(rw [List.length_append,HYL.out,SA.out];omega);intro v5 w5 hown5 fZ mI u6;have qw:=oC.snoc Jg.out _ hown5 fZ;clear hown5 fZ mI u6;rw [List.append_assoc,← E6.out] at qw;obtain ⟨s5,c5,hv5, -⟩:=qw.own.form;rw [List.length_append,HYL.out,E6.out,List.length_append,SA.out,List.length_singleton,show l+(j+1)=l'+1 by have:=HL'.out;omega] at hv5;subst hv5;have Sr:=Lib.hid qw;clear qw)
      go_roundg (gk - 1)
      case measure=>omega
      case rel=>exact ⟨j+1,l'+1,s5,c5,by omega,by have:=HL'.out;omega,by congr 1;omega,rfl,Sr.out⟩
    ·have ej:j=16:=by omega
     have hfin:aV wo2 w.heap.size (.slice sv' l' cv') (xs ++ tail n):=by
      have:=Jg.out.own
      rwa [ej,HYS.out,List.append_assoc,zw] at this
     have hbe:=Jg.out.below
     have HF:=Lib.hid hfin
     clear ej hfin
     go_wp2_with fail
     go_ret
     exact ⟨_,rfl,HF.out,hbe⟩
end Go.Proofs.YthdgbgleklkaiaaDoor.Hb
namespace Go.Proofs.YthdgbgleklkaiaaDoor.Ha
open Go.RowKit
theorem or_comm (k:IntKind) (a b:Int):bits .or k a b=bits .or k b a:=by
 unfold bits
 simp only
 rw [BitVec.or_comm]
theorem ror_2 (x:Int) (w:World):Calls Tryd.prog 29 #[.int .u32 x, .int .u64 2] w fun e w'=>e = .returned (.int .u32 (eU x 4 1073741824))∧w=w':=by
 go_enter Tryd.func29, Tryd.ntmps29
 go_wp2
 go_ret
 exact ⟨by unfold eU;rw [or_comm];rfl,rfl⟩
theorem ror_6 (x:Int) (w:World):Calls Tryd.prog 29 #[.int .u32 x, .int .u64 6] w fun e w'=>e = .returned (.int .u32 (eU x 64 67108864))∧w=w':=by
 go_enter Tryd.func29, Tryd.ntmps29
 go_wp2
 go_ret
 exact ⟨by unfold eU;rw [or_comm];rfl,rfl⟩
theorem ror_7 (x:Int) (w:World):Calls Tryd.prog 29 #[.int .u32 x, .int .u64 7] w fun e w'=>e = .returned (.int .u32 (eU x 128 33554432))∧w=w':=by
 go_enter Tryd.func29, Tryd.ntmps29
 go_wp2
 go_ret
 exact ⟨by unfold eU;rw [or_comm];rfl,rfl⟩
theorem ror_11 (x:Int) (w:World):Calls Tryd.prog 29 #[.int .u32 x, .int .u64 11] w fun e w'=>e = .returned (.int .u32 (eU x 2048 2097152))∧w=w':=by
 go_enter Tryd.func29, Tryd.ntmps29
 go_wp2
 go_ret
 exact ⟨by unfold eU;rw [or_comm];rfl,rfl⟩
theorem ror_13 (x:Int) (w:World):Calls Tryd.prog 29 #[.int .u32 x, .int .u64 13] w fun e w'=>e = .returned (.int .u32 (eU x 8192 524288))∧w=w':=by
 go_enter Tryd.func29, Tryd.ntmps29
 go_wp2
 go_ret
 exact ⟨by unfold eU;rw [or_comm];rfl,rfl⟩
theorem ror_17 (x:Int) (w:World):Calls Tryd.prog 29 #[.int .u32 x, .int .u64 17] w fun e w'=>e = .returned (.int .u32 (eU x 131072 32768))∧w=w':=by
 go_enter Tryd.func29, Tryd.ntmps29
 go_wp2
 go_ret
 exact ⟨by unfold eU;rw [or_comm];rfl,rfl⟩
theorem JF (x:Int) (w:World):Calls Tryd.prog 29 #[.int .u32 x, .int .u64 18] w fun e w'=>e = .returned (.int .u32 (eU x 262144 16384))∧w=w':=by
 go_enter Tryd.func29, Tryd.ntmps29
 go_wp2
 go_ret
 exact ⟨by unfold eU;rw [or_comm];rfl,rfl⟩
theorem JE (x:Int) (w:World):Calls Tryd.prog 29 #[.int .u32 x, .int .u64 19] w fun e w'=>e = .returned (.int .u32 (eU x 524288 8192))∧w=w':=by
 go_enter Tryd.func29, Tryd.ntmps29
 go_wp2
 go_ret
 exact ⟨by unfold eU;rw [or_comm];rfl,rfl⟩
theorem ror_22 (x:Int) (w:World):Calls Tryd.prog 29 #[.int .u32 x, .int .u64 22] w fun e w'=>e = .returned (.int .u32 (eU x 4194304 1024))∧w=w':=by
 go_enter Tryd.func29, Tryd.ntmps29
 go_wp2
 go_ret
 exact ⟨by unfold eU;rw [or_comm];rfl,rfl⟩
theorem ror_25 (x:Int) (w:World):Calls Tryd.prog 29 #[.int .u32 x, .int .u64 25] w fun e w'=>e = .returned (.int .u32 (eU x 33554432 128))∧w=w':=by
 go_enter Tryd.func29, Tryd.ntmps29
 go_wp2
 go_ret
 exact ⟨by unfold eU;rw [or_comm];rfl,rfl⟩
def zs' (n:Nat):Nat:=(2 * 64 - 8 - 1 - n % 64) % 64
def jm (n j:Nat):List Int:=(List.range j).map fun i=>if 8 - 1 - i < 8 then ((8 * n / 2 ^ (8 * (8 - 1 - i)) % 256:Nat):Int) else 0
theorem qp (n j:Nat):jm n (j+1)=jm n j ++ [if 8 - 1 - j < 8 then ((8 * n / 2 ^ (8 * (8 - 1 - j)) % 256:Nat):Int) else 0]:=by simp [jm,List.range_succ]
theorem zw (n:Nat):(128 :: List.replicate (zs' n) 0) ++ jm n 8=tail n:=by
 unfold tail jm zs'
 rw [List.append_assoc]
 congr 1
theorem uW (k:Nat):(128:Int) :: List.replicate (k+1) 0=(128 :: List.replicate k 0) ++ [0]:=by rw [List.replicate_succ',List.cons_append]
theorem rE (x:Nat) (hx:x < 9223372036854775808):bits .and .i64 (x:Int) 255=((x % 256:Nat):Int):=by
 have e:x &&& 255=x % 256:=Nat.and_two_pow_sub_one_eq_mod x 8
 have h1:(BitVec.ofInt 64 (x:Int)).toNat=x:=by
  rw [BitVec.ofInt_natCast,BitVec.toNat_ofNat];exact Nat.mod_eq_of_lt (by omega)
 have h2:(BitVec.ofInt 64 (255:Int)).toNat=255:=by decide
 show IntKind.i64.wrap ((BitVec.ofInt 64 (x:Int) &&& BitVec.ofInt 64 (255:Int)).toNat:Int)=_
 rw [BitVec.toNat_and,h1,h2,e,IntKind.wrap_i64]
 omega
structure oC (w wr:World) (v:Value) (ys:List Int):Prop where
 own:aV wr w.heap.size v ys
 below:Below w.heap.size w wr
theorem oC.snoc {w wr w':World} {v v':Value} {ys:List Int} {x:Int} (h:oC w wr v ys) (o:Obj) (h1:aV w' w.heap.size v' (ys ++ [x])) (hg:(wr.alloc o).grownBy w' v.ownBlock):oC w w' v' (ys ++ [x]) :=
 ⟨h1,aQ (h.own.alloc o) hg (h.below.alloc h.below.size o) (Nat.le_trans h.below.size (by simp))⟩
theorem qX (sa:Option Addr) (n c:Nat) (xs:List Int) (w:World) (hs:Src w sa n xs) (hn:n≤70368744177664) :
  Calls Tryd.prog 28 #[.slice sa n c, .int .i64 64, .int .i64 8] w fun e w'=>∃ v,e = .returned v∧aV w' w.heap.size v (xs ++ tail n)∧Below w.heap.size w w':=by
 have hxl:=hs.len
 have HS:=Lib.hid hs
 have iG:=Lib.hid hxl
 clear hs hxl
 go_enter Tryd.func28, Tryd.ntmps28
 go_wp2_with (first|((with_reducible refine aS 12 ?_);refine aO rfl _ _ rfl w.heap.size (.slice none 0 0) [] rfl (aV.nil _ _) sa n _ xs rfl HS.out ?_ (Nat.le_refl _) ?_;(simp;omega);intro v1 w1 hown1 hgrow1 VR hat1;rw [List.nil_append] at hown1;have hb1:Below w.heap.size w w1:=(Below.refl _ w).grown hgrow1 (Nat.le_refl _) (fun k hk=>by cases hk);have Sz:=Lib.hid hown1;clear hown1 hgrow1 VR hat1)|((with_reducible refine aS 14 ?_);refine aO rfl _ _ rfl w.heap.size v1 xs rfl (Sz.out.alloc _) (some ⟨w1.heap.size,0,none⟩) 1 _ [128] rfl (kD _ _) ?_ (Nat.le_trans hb1.size (by simp)) ?_;(rw [iG.out];omega);intro v2 w2 hown2 hgrow2 VQ hat2;have EZ:=Lib.hid (oC.snoc ⟨Sz.out,hb1⟩ _ hown2 hgrow2);clear hown2 hgrow2 VQ hat2))
 obtain ⟨s2,c2,hv2, -⟩:=EZ.out.own.form
 rw [List.length_append,iG.out,List.length_singleton] at hv2
 subst hv2
 go_loopg [7] (zs' n) (fun g m wr=>∃ (k l:Nat) (sv:Option Addr) (cv:Nat),g+k=zs' n∧l=n+1+k∧m = .slice sv l cv∧oC w wr (.slice sv l cv) (xs ++ (128 :: List.replicate k 0)))
 case atStart=>exact ⟨0,n+1,s2,c2,by omega,rfl,rfl,EZ.out⟩
 case round =>
  obtain ⟨k,l,sv,cv,hk,hl,rfl,hp⟩:=hrel
  obtain ⟨wo,rfl⟩:∃ wo:World,wo=wr:=⟨_,rfl⟩
  have hzs:zs' n=(2 * 64 - 8 - 1 - n % 64) % 64:=rfl
  have hmod:((l:Int) % 64)=(((n+1+k) % 64:Nat):Int):=by rw [hl];omega
  have hl1:l≤140737488355000:=by rw [hl];omega
  have HL:=Lib.hid hl
  by_cases hlt:k < zs' n
  ·have t1:(((l:Int) % 64) == 56)=false:=by rw [hmod];simp;omega
   have t2:(((l:Int) % 64) != 56)=true:=by rw [hmod];simp;omega
   have HP:=Lib.hid hp
   clear hzs hmod hp hl
   go_wp2_with ((with_reducible refine aS 25 ?_);refine aO rfl _ _ rfl w.heap.size (.slice sv l cv) (xs ++ (128 :: List.replicate k 0)) rfl (HP.out.own.alloc _) (some ⟨wo.heap.size,0,none⟩) 1 _ [0] rfl (kD _ _) ?_ (Nat.le_trans HP.out.below.size (by simp)) ?_;(rw [List.length_append,iG.out,List.length_cons,List.length_replicate];have:=HL.out;omega);intro v5 w5 hown5 fZ mI u6;have qw:=oC.snoc HP.out _ hown5 fZ;clear hown5 fZ mI u6;rw [List.append_assoc,← uW] at qw;obtain ⟨s5,c5,hv5, -⟩:=qw.own.form;rw [List.length_append,iG.out,List.length_cons,List.length_replicate,show n+(k+1+1)=l+1 by have:=HL.out;omega] at hv5;subst hv5;have Sr:=Lib.hid qw;clear qw)
   go_roundg (gk - 1)
   case measure=>omega
   case rel=>exact ⟨k+1,l+1,s5,c5,by omega,by have:=HL.out;omega,rfl,Sr.out⟩
  ·have t1:(((l:Int) % 64) == 56)=true:=by rw [hmod];simp;omega
   have t2:(((l:Int) % 64) != 56)=false:=by rw [hmod];simp;omega
   have ek:k=zs' n:=by omega
   obtain ⟨ys,hys⟩:∃ ys,ys=xs ++ (128 :: List.replicate k 0):=⟨_,rfl⟩
   rw [← hys] at hp
   rw [ek] at hys
   have hyl:ys.length=l:=by rw [hys,hl,ek,List.length_append,iG.out];simp;omega
   have HYS:=Lib.hid hys
   have HYL:=Lib.hid hyl
   have HP:=Lib.hid hp
   clear hzs hmod hp hl ek hys hyl
   go_wp2_with fail
   go_loopg [7,9] 8 (fun g m i wr=>∃ (j l':Nat) (sv:Option Addr) (cv:Nat),g+j=8∧l'=l+j∧i = .int .i64 (7 - (j:Int))∧m = .slice sv l' cv∧oC w wr (.slice sv l' cv) (ys ++ jm n j))
   case atStart=>exact ⟨0,l,sv,cv,rfl,rfl,rfl,rfl,by simpa [jm] using HP.out⟩
   case round =>
    obtain ⟨j,l',sv',cv',hj,hl',rfl,rfl,hp⟩:=hrel
    obtain ⟨wo2,rfl⟩:∃ wo2:World,wo2=wr:=⟨_,rfl⟩
    have hll:(jm n j).length=j:=by simp [jm]
    have SA:=Lib.hid hll
    have HL':=Lib.hid hl'
    have Jg:=Lib.hid hp
    clear hll hl' hp
    by_cases hlt2:j < 8
    ·by_cases h8:7 - j < 8
     ·have e1:(8 * (7 - (j:Int))).toNat=8 * (7 - j):=by omega
      have e2:0≤8 * (7 - (j:Int)):=by omega
      have e3:8 * (7 - (j:Int))≤56:=by omega
      have e4:(7:Int) - (j:Int) < 8:=by omega
      have e5:bits .and .i64 (8 * (n:Int) / 2 ^ (8 * (7 - j))) 255=((8 * n / 2 ^ (8 * (7 - j)) % 256:Nat):Int):=by
       rw [show (8 * (n:Int) / 2 ^ (8 * (7 - j)))=((8 * n / 2 ^ (8 * (7 - j)):Nat):Int) by rw [Int.natCast_ediv,Int.natCast_mul,Int.natCast_pow];rfl]
       exact rE _ (Nat.lt_of_le_of_lt (Nat.div_le_self _ _) (by omega))
      have e6:jm n (j+1)=jm n j ++ [((8 * n / 2 ^ (8 * (7 - j)) % 256:Nat):Int)]:=by rw [qp,if_pos h8]
      obtain ⟨x,hx⟩:∃ x,x=8 * n / 2 ^ (8 * (7 - j)) % 256:=⟨_,rfl⟩
      have hx1:x < 256:=by rw [hx];exact Nat.mod_lt _ (by omega)
      rw [← hx] at e5 e6
      have E6:=Lib.hid e6
      clear hx e6
      go_wp2_with ((with_reducible refine aS 47 ?_);refine aO rfl _ _ rfl w.heap.size (.slice sv' l' cv') (ys ++ jm n j) rfl (Jg.out.own.alloc _) (some ⟨wo2.heap.size,0,none⟩) 1 _ [(x:Int)] rfl (kD _ _) ?_ (Nat.le_trans Jg.out.below.size (by simp)) ?_;(rw [List.length_append,HYL.out,SA.out];omega);intro v5 w5 hown5 fZ mI u6;have qw:=oC.snoc Jg.out _ hown5 fZ;clear hown5 fZ mI u6;rw [List.append_assoc,← E6.out] at qw;obtain ⟨s5,c5,hv5, -⟩:=qw.own.form;rw [List.length_append,HYL.out,E6.out,List.length_append,SA.out,List.length_singleton,show l+(j+1)=l'+1 by have:=HL'.out;omega] at hv5;subst hv5;have Sr:=Lib.hid qw;clear qw)
      go_roundg (gk - 1)
      case measure=>omega
      case rel=>exact ⟨j+1,l'+1,s5,c5,by omega,by have:=HL'.out;omega,by congr 1;omega,rfl,Sr.out⟩
     ·exfalso;omega
    ·have ej:j=8:=by omega
     have hfin:aV wo2 w.heap.size (.slice sv' l' cv') (xs ++ tail n):=by
      have:=Jg.out.own
      rwa [ej,HYS.out,List.append_assoc,zw] at this
     have hbe:=Jg.out.below
     have HF:=Lib.hid hfin
     clear ej hfin
     go_wp2_with fail
     go_ret
     exact ⟨_,rfl,HF.out,hbe⟩
end Go.Proofs.YthdgbgleklkaiaaDoor.Ha
