/- A stop's bytes, told from all others: no program here. Condition: the arguments' sizes; the tables hold what their text lays. -/
import Derived.Test.YtodnkallpfkdiaaDoorCeJ
namespace Go.Proofs.YtodnkallpfkdiaaDoor.Ce
open Go.RowKit Lm Fp Cu Sl Sc
set_option linter.unusedSimpArgs false
set_option linter.unusedVariables false
/-- A stop's bytes are read as that stop. -/
theorem rdOk_of {xs:List Int} (hl:xs.length=76) (hh:xs.take 4=[80,67,83,84]) (hi:okI (intV (xs.drop 4) false)=true):rdOk xs=true∧rdI xs=intV (xs.drop 4) false∧rdG xs=xs.drop 12:=by
 have o1:rawOk xs false 4=true:=rawOk_iff.2 ⟨rfl,by decide,by omega⟩
 have b1:rdB1 xs=false:=by rw [rdB1,o1];rfl
 have s1:rdS1 xs=xs.drop 4:=by rw [rdS1,rawS,if_pos o1];rfl
 have o2:rawOk (xs.drop 4) false 8=true:=rawOk_iff.2 ⟨rfl,by decide,by rw [List.length_drop];omega⟩
 have b2:rdB2 xs=false:=by rw [rdB2,b1,s1,o2];rfl
 have s2:rdS2 xs=xs.drop 12:=by rw [rdS2,b1,s1,rawS,if_pos o2,show (8:Int).toNat=8 from rfl,List.drop_drop]
 have o3:rawOk (xs.drop 12) false 64=true:=rawOk_iff.2 ⟨rfl,by decide,by rw [List.length_drop];omega⟩
 have b3:rdB3 xs=false:=by rw [rdB3,b2,s2,o3];rfl
 have s3:rdS3 xs=xs.drop 76:=by rw [rdS3,b2,s2,rawS,if_pos o3,show (64:Int).toNat=64 from rfl,List.drop_drop]
 have e:rdE xs=true:=by rw [rdE,b3,s3,List.length_drop,hl];rfl
 have h:rdH xs=[80,67,83,84]:=by rw [rdH,rawV,if_pos o1];exact hh
 have i:rdI xs=intV (xs.drop 4) false:=by rw [rdI,b1,s1]
 refine ⟨?_,i,?_⟩
 ·rw [rdOk,e,decide_eq_true h,i,hi];rfl
 ·rw [rdG,b2,s2,rawV,if_pos o3]
  exact List.take_of_length_le (by rw [List.length_drop,hl];decide)
theorem rdOk_len {xs:List Int} (h:rdOk xs=true):xs.length=76∧xs.take 4=[80,67,83,84]:=by
 unfold rdOk at h
 simp only [Bool.and_eq_true,decide_eq_true_eq] at h
 obtain ⟨⟨he,hh⟩, -⟩:=h
 have hg:=rdG_len he
 unfold rdE at he
 simp only [Bool.and_eq_true,Bool.not_eq_true',decide_eq_true_eq] at he
 obtain ⟨hb3,hs3⟩:=he
 have o3:=hb3
 rw [rdB3,Bool.not_eq_false'] at o3
 obtain ⟨hb2, -, l3⟩:=rawOk_iff.1 o3
 have o2:=hb2
 rw [rdB2,Bool.not_eq_false'] at o2
 obtain ⟨hb1, -, l2⟩:=rawOk_iff.1 o2
 have o1:=hb1
 rw [rdB1,Bool.not_eq_false'] at o1
 obtain ⟨-, -, l1⟩:=rawOk_iff.1 o1
 have s1:rdS1 xs=xs.drop 4:=by rw [rdS1,rawS,if_pos o1];rfl
 have s2:rdS2 xs=xs.drop 12:=by rw [rdS2,rawS,if_pos o2,s1,show (8:Int).toNat=8 from rfl,List.drop_drop]
 have s3:rdS3 xs=xs.drop 76:=by rw [rdS3,rawS,if_pos o3,s2,show (64:Int).toNat=64 from rfl,List.drop_drop]
 rw [s3,List.length_drop] at hs3
 rw [s2,List.length_drop] at l3
 refine ⟨by omega,?_⟩
 rw [rdH,rawV,if_pos o1] at hh
 exact hh
theorem or_add64 (u x:Nat) (hu:u < 2 ^ 56) (hx:x < 256):bits .or .u64 (IntKind.u64.wrap ((u:Int) * 256)) (IntKind.u64.wrap (x:Int))=((u * 256+x:Nat):Int):=by
 have e1:IntKind.u64.wrap ((u:Int) * 256)=((u * 256:Nat):Int):=by rw [IntKind.wrap_u64];omega
 have e2:IntKind.u64.wrap (x:Int)=(x:Int):=by rw [IntKind.wrap_u64];omega
 rw [e1,e2]
 show IntKind.u64.wrap ((BitVec.ofInt 64 ((u * 256:Nat):Int) ||| BitVec.ofInt 64 (x:Int)).toNat:Int)=_
 have hy:x < 2 ^ 8:=hx
 rw [BitVec.ofInt_natCast,BitVec.ofInt_natCast,BitVec.toNat_or,BitVec.toNat_ofNat,BitVec.toNat_ofNat,Nat.mod_eq_of_lt (by omega),Nat.mod_eq_of_lt (by omega),show u * 256=2 ^ 8 * u by omega,← Nat.two_pow_add_eq_or_of_lt hy,IntKind.wrap_u64]
 omega
/-- Eight bytes' number, by its steps. -/
theorem be64_nat (ys:List Int) (hb:bytes ys):∀ j,j≤ys.length→j≤8→∃ u:Nat,be64 (ys.take j)=(u:Int)∧u < 256 ^ j∧∀ k,k < 8→k < j→u / 256 ^ (j - 1 - k) % 256=(ys.getD k 0).toNat
 | 0,_,_=>⟨0,rfl,by decide,fun k _ h=>absurd h (Nat.not_lt_zero _)⟩
 | j+1,hj,h8=>by
  obtain ⟨u,h1,h2,h3⟩:=be64_nat ys hb j (by omega) (by omega)
  have hx:=bytes_at hb j
  obtain ⟨x,hxe⟩:∃ x:Nat,ys.getD j 0=(x:Int):=⟨(ys.getD j 0).toNat,by omega⟩
  have hx2:x < 256:=by omega
  have hu:u < 2 ^ 56:=Nat.lt_of_lt_of_le h2 (by
   have:(256:Nat) ^ j≤256 ^ 7:=Nat.pow_le_pow_right (by decide) (by omega)
   exact Nat.le_trans this (by decide))
  refine ⟨u * 256+x,?_,?_,?_⟩
  ·rw [be64_snoc ys j (by omega),h1,hxe,or_add64 u x hu hx2]
  ·rw [Nat.pow_succ];omega
  ·intro k hk hkj
   by_cases e:k=j
   ·subst e
    rw [show k+1 - 1 - k=0 by omega,Nat.pow_zero,Nat.div_one,hxe]
    omega
   ·have:=h3 k hk (by omega)
    rw [← this,show j+1 - 1 - k=(j - 1 - k)+1 by omega,Nat.pow_succ,Nat.mul_comm (256 ^ (j - 1 - k)) 256,← Nat.div_div_eq_div_mul,show (u * 256+x) / 256=u by omega]
theorem be64_be8 (n:Int) (h:0≤n) (h2:n < 2 ^ 63) (zs:List Int):be64 ((be8 n ++ zs).take 8)=n:=by
 have hb:bytes (be8 n):=be8_bytes n
 have e:(be8 n ++ zs).take 8=be8 n:=by rw [List.take_append_of_le_length (by rw [be8_len];exact Nat.le_refl _),List.take_of_length_le (by rw [be8_len];exact Nat.le_refl _)]
 obtain ⟨m,rfl⟩:=Int.eq_ofNat_of_zero_le h
 obtain ⟨u,h1,h3,h4⟩:=be64_nat (be8 m) hb 8 (by rw [be8_len];omega) (by omega)
 rw [List.take_of_length_le (by rw [be8_len];omega)] at h1
 rw [e,h1]
 have hm:m < 2 ^ 63:=by omega
 have g:∀ k,k < 8→u / 256 ^ (7 - k) % 256=m / 256 ^ (7 - k) % 256:=by
  intro k hk
  have:=h4 k hk hk
  rw [this]
  have e2:(be8 (m:Int)).getD k 0=(m:Int) / 2 ^ (8 * (7 - k)) % 256:=by simp [be8,List.getD,hk]
  rw [e2,show (256:Nat) ^ (7 - k)=2 ^ (8 * (7 - k)) by rw [Nat.pow_mul]]
  have:((m:Int) / 2 ^ (8 * (7 - k)) % 256)=((m / 2 ^ (8 * (7 - k)) % 256:Nat):Int):=by
   rw [Int.natCast_emod,Int.natCast_ediv,Int.natCast_pow];rfl
  rw [this,Int.toNat_natCast]
 have g0:=g 0 (by omega)
 have g1:=g 1 (by omega)
 have g2:=g 2 (by omega)
 have g3:=g 3 (by omega)
 have g4:=g 4 (by omega)
 have g5:=g 5 (by omega)
 have g6:=g 6 (by omega)
 have g7:=g 7 (by omega)
 simp only [Nat.sub_zero,Nat.reduceSub,Nat.reducePow] at g0 g1 g2 g3 g4 g5 g6 g7
 rw [show (256:Nat) ^ 8=18446744073709551616 by decide] at h3
 congr 1
 omega
theorem intV_be8 (n:Int) (h:0≤n) (h2:n < 2 ^ 63) (zs:List Int):intV (be8 n ++ zs) false=n:=by
 unfold intV rawV
 have:rawOk (be8 n ++ zs) false 8=true:=rawOk_iff.2 ⟨rfl,by omega,by rw [List.length_append,be8_len];omega⟩
 rw [if_pos this,show (8:Int).toNat=8 from rfl,be64_be8 n h h2]
 exact IntWalk.wrap64_in n ⟨by omega,by omega⟩
theorem stopT_read (id:Int) (gs:List Int) (h:okI id=true) (hg:gs.length=64):rdOk (stopT id ++ gs)=true∧rdI (stopT id ++ gs)=id∧rdG (stopT id ++ gs)=gs:=by
 have hid:0≤id∧id≤2147483647:=by simpa [okI] using h
 have e4:(stopT id ++ gs).drop 4=be8 id ++ gs:=by simp [stopT,packL]
 have e12:(stopT id ++ gs).drop 12=gs:=by
  rw [List.drop_append,stopT_len,Nat.sub_self,List.drop_zero,List.drop_of_length_le (by rw [stopT_len];decide),List.nil_append]
 have iv:intV ((stopT id ++ gs).drop 4) false=id:=by rw [e4];exact intV_be8 id hid.1 (by omega) gs
 obtain ⟨a,b,c⟩:=rdOk_of (xs:=stopT id ++ gs) (by rw [List.length_append,stopT_len,hg]) (by simp [stopT,packL]) (by rw [iv];exact h)
 rw [iv] at b
 rw [e12] at c
 exact ⟨a,b,c⟩
end Go.Proofs.YtodnkallpfkdiaaDoor.Ce
