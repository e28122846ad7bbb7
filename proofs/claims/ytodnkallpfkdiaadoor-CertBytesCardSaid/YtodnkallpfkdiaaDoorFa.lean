/- Reckoning modulo 2^255 - 19, in plain numbers, and what the code's steps come to. Condition: as each theorem says. -/
import Derived.Test.YtodnkallpfkdiaaDoorMa
set_option maxRecDepth 100000
set_option maxHeartbeats 16000000
set_option linter.unusedSimpArgs false
set_option linter.unusedVariables false
namespace Go.Proofs.YtodnkallpfkdiaaDoor.Fp
open Go.RowKit Lm
def p:Nat:=57896044618658097711785492504343953926634992332820282019728792003956564819949
theorem p_eq:p+19=2 ^ 255:=by decide +kernel
theorem p_lt:p < 18446744073709551616 ^ 4:=by decide +kernel
theorem p_pos:0 < p:=by decide +kernel
theorem top_eq:18446744073709551616 ^ 4=2 * p+38:=by decide +kernel
def fadd (x y:Nat):Nat:=(x+y) % p
def fsub (x y:Nat):Nat:=(x+p - y) % p
def fmul (x y:Nat):Nat:=x * y % p
/-- The power by the highest n of 256 bits. -/
def fpow (a e:Nat):Nat→Nat
 | 0=>1
 | n+1=>if e / 2 ^ (255 - n) % 2=1 then fmul (fmul (fpow a e n) (fpow a e n)) a else fmul (fpow a e n) (fpow a e n)
def finv (a:Nat):Nat:=fpow a (p - 2) 256
def eighth:Nat:=7237005577332262213973186563042994240829374041602535252466099000494570602494
def im:Nat:=19681161376707505956807079304988542015446066515923890162744021073123829784752
def fsqrt (a:Nat):Nat×Bool :=
 let x:=fpow a eighth 256
 let y:=if fmul x x=a then x else fmul x im
 if fmul y y=a then (if y % 2=1 then fsub 0 y else y,true) else (0,false)
theorem eighth_eq:eighth=2 ^ 252 - 2:=by decide +kernel
theorem im_sq:fmul im im=p - 1:=by decide +kernel
theorem fadd_lt (x y:Nat):fadd x y < p:=Nat.mod_lt _ p_pos
theorem fsub_lt (x y:Nat):fsub x y < p:=Nat.mod_lt _ p_pos
theorem fmul_lt (x y:Nat):fmul x y < p:=Nat.mod_lt _ p_pos
theorem fpow_lt (a e:Nat):∀ n,fpow a e n < p
 | 0=>by show 1 < p;decide +kernel
 | n+1=>by
  unfold fpow
  split
  ·exact fmul_lt _ _
  ·exact fmul_lt _ _
theorem fsqrt_lt (a:Nat):(fsqrt a).1 < p:=by
 unfold fsqrt
 simp only
 repeat' split
 all_goals first|exact fsub_lt _ _|exact p_pos|exact fpow_lt _ _ _|exact fmul_lt _ _|skip
/-- One round of Lessen: x less p, if that is none below nought. -/
def less1 (x:Nat):Nat:=if x < p then x else x - p
theorem mod_sub1 {x q:Nat} (h1:q≤x) (h2:x < 2 * q):x % q=x - q:=by
 rw [Nat.mod_eq_sub_mod h1,Nat.mod_eq_of_lt (by omega)]
theorem lessen_eq (x:Nat) (hx:x < 18446744073709551616 ^ 4):less1 (less1 x)=x % p:=by
 rw [top_eq] at hx
 have hp:38 < p:=by decide +kernel
 unfold less1
 generalize p=q at hx hp
 by_cases h1:x < q
 ·rw [if_pos h1,if_pos h1,Nat.mod_eq_of_lt h1]
 ·rw [if_neg h1]
  by_cases h2:x - q < q
  ·rw [if_pos h2,mod_sub1 (by omega) (by omega)]
  ·rw [if_neg h2,Nat.mod_eq_sub_mod (by omega),mod_sub1 (by omega) (by omega)]
theorem mod_add_mul (x q k:Nat):(x+q * k) % q=x % q:=Nat.add_mul_mod_self_left x q k
/-- What fold does, step by step. -/
theorem fold_eq (x c:Nat) (hx:x < 18446744073709551616 ^ 4) (hc:c≤1000) :
  ((x+38 * c) % 18446744073709551616 ^ 4+38 * ((x+38 * c) / 18446744073709551616 ^ 4)) % 18446744073709551616 ^ 4 % p=(x+18446744073709551616 ^ 4 * c) % p∧(x+38 * c) / 18446744073709551616 ^ 4≤1:=by
 have hp:100000 < p:=by decide +kernel
 rw [top_eq] at hx ⊢
 generalize p=q at hx hp ⊢
 have e2:(2 * q+38) * c=38 * c+q * (2 * c):=by grind
 rw [e2,← Nat.add_assoc,mod_add_mul]
 by_cases h1:x+38 * c < 2 * q+38
 ·rw [Nat.mod_eq_of_lt h1,Nat.div_eq_of_lt h1,Nat.mul_zero,Nat.add_zero,Nat.mod_eq_of_lt h1]
  exact ⟨rfl,by omega⟩
 ·have e3:(x+38 * c) / (2 * q+38)=1:=by
   rw [Nat.div_eq_of_lt_le] <;> omega
  have e4:(x+38 * c) % (2 * q+38)=x+38 * c - (2 * q+38):=mod_sub1 (by omega) (by omega)
  have e5:(x+38 * c - (2 * q+38)+38 * 1) % (2 * q+38)=x+38 * c - 2 * q:=by
   rw [Nat.mod_eq_of_lt (by omega)]
   omega
  rw [e3,e4,e5]
  refine ⟨?_,Nat.le_refl _⟩
  have e6:(x+38 * c) % q=(x+38 * c - 2 * q+q * 2) % q:=by
   congr 1
   omega
  rw [e6,mod_add_mul]
theorem plus_eq (x y:Nat):((x+y) % 18446744073709551616 ^ 4+18446744073709551616 ^ 4 * ((x+y) / 18446744073709551616 ^ 4)) % p=fadd x y:=by
 rw [Nat.mod_add_div];rfl
theorem minus_eq (x y:Nat) (hx:x < p) (hy:y < p) :
  (if x < y then ((x+18446744073709551616 ^ 4 - y) % 18446744073709551616 ^ 4+p) % 18446744073709551616 ^ 4 else (x+18446744073709551616 ^ 4 - y) % 18446744073709551616 ^ 4)=fsub x y:=by
 have hp:=p_lt
 unfold fsub
 generalize 18446744073709551616 ^ 4=T at hp ⊢
 generalize p=q at hx hy hp ⊢
 by_cases h:x < y
 ·rw [if_pos h,Nat.mod_eq_of_lt (show x+T - y < T by omega),Nat.mod_eq_of_lt (show x+q - y < q by omega),mod_sub1 (by omega) (by omega)]
  omega
 ·rw [if_neg h,show x+T - y=x - y+T by omega,Nat.add_mod_right,Nat.mod_eq_of_lt (by omega),show x+q - y=x - y+q by omega,Nat.add_mod_right,Nat.mod_eq_of_lt (by omega)]
theorem times_step (b k S X Y lo c c' x y:Nat) (h:S+b ^ k * c=X+38 * Y) (hs:lo+b * c'=y * 38+c+x):(S+b ^ k * lo)+b ^ (k+1) * c'=(X+b ^ k * x)+38 * (Y+b ^ k * y):=by
 have e:b ^ k * (lo+b * c')=b ^ k * (y * 38+c+x):=by rw [hs]
 rw [Nat.pow_succ]
 grind
theorem times_carry (lo c c' x y:Nat) (hs:lo+18446744073709551616 * c'=y * 38+c+x) (hx:x < 18446744073709551616) (hy:y < 18446744073709551616) (hc:c≤39):c'≤39:=by omega
theorem times_eq (V n c lowv highv:Nat) (h:n+18446744073709551616 ^ 4 * c=lowv+38 * highv) (hv:V=lowv+18446744073709551616 ^ 4 * highv):(n+18446744073709551616 ^ 4 * c) % p=V % p:=by
 rw [h,hv,top_eq,show lowv+(2 * p+38) * highv=lowv+38 * highv+p * (2 * highv) by grind,mod_add_mul]
theorem pow_next (a e n:Nat):fpow a e (n+1)=if e / 2 ^ (255 - n) % 2=1 then fmul (fmul (fpow a e n) (fpow a e n)) a else fmul (fpow a e n) (fpow a e n):=rfl
/-- A bit out of a limb. -/
theorem bit_limb (v k:Nat):v / 18446744073709551616 ^ (k / 64) % 18446744073709551616 / 2 ^ (k % 64) % 2=v / 2 ^ k % 2:=by
 have e:2 ^ k=18446744073709551616 ^ (k / 64) * 2 ^ (k % 64):=by
  rw [show (18446744073709551616:Nat)=2 ^ 64 by rfl,← Nat.pow_mul,← Nat.pow_add]
  congr 1
  omega
 rw [e,← Nat.div_div_eq_div_mul]
 generalize v / 18446744073709551616 ^ (k / 64)=y
 have h8:k % 64 < 64:=Nat.mod_lt _ (by decide)
 generalize k % 64=s at h8 ⊢
 have hB:(18446744073709551616:Nat)=2 ^ s * (2 * 2 ^ (63 - s)):=by
  rw [show (18446744073709551616:Nat)=2 ^ 64 by rfl,← Nat.pow_succ',← Nat.pow_add]
  congr 1
  omega
 rw [hB,Nat.mod_mul_right_div_self,Nat.mod_mul_right_mod]
end Go.Proofs.YtodnkallpfkdiaaDoor.Fp
namespace Go.Proofs.YtodnkallpfkdiaaDoor.Cu
open Go.RowKit Lm Fp
structure Pt where
 x:Nat
 y:Nat
 z:Nat
 t:Nat
def dd:Nat:=37095705934669439343138083508754565189542113879843219016388785533085940283555
def bx:Nat:=15112221349535400772501151409588531511454012693041857206046113283949847762202
def bY:Nat:=46316835694926478169428394003475163141307993866256225615783033603165251855960
def base:Pt:=⟨bx,bY,1,fmul bx bY⟩
def nought:Pt:=⟨0,1,1,0⟩
def eadd (P Q:Pt):Pt :=
 let a:=fmul (fsub P.y P.x) (fsub Q.y Q.x)
 let b:=fmul (fadd P.y P.x) (fadd Q.y Q.x)
 let c:=fmul (fmul P.t (fadd dd dd)) Q.t
 let z:=fmul P.z (fadd Q.z Q.z)
 ⟨fmul (fsub b a) (fsub z c),fmul (fadd z c) (fadd b a),fmul (fsub z c) (fadd z c),fmul (fsub b a) (fadd b a)⟩
/-- By the highest n of 256 bits. -/
def emul (P:Pt) (k:Nat):Nat→Pt
 | 0=>nought
 | n+1=>if k / 2 ^ (255 - n) % 2=1 then eadd (eadd (emul P k n) (emul P k n)) P else eadd (emul P k n) (emul P k n)
/-- The number that a point's bytes are. -/
def ebytes (P:Pt):Nat:=fmul P.y (finv P.z)+2 ^ 255 * (fmul P.x (finv P.z) % 2)
def eread (v:Nat):Option Pt :=
 let y:=v % 2 ^ 255
 if y < p then
  let r:=fsqrt (fmul (fsub (fmul y y) 1) (finv (fadd (fmul dd (fmul y y)) 1)))
  if r.2=true∧(v / 2 ^ 255=1→r.1≠0) then
   let x:=if v / 2 ^ 255=1 then fsub 0 r.1 else r.1
   some ⟨x,y,1,fmul x y⟩
  else none
 else none
def clamp (k:Nat):Nat:=k / 8 * 8 % 2 ^ 254+2 ^ 254
structure Pt.Ok (P:Pt):Prop where
 x:P.x < p
 y:P.y < p
 z:P.z < p
 t:P.t < p
theorem eadd_ok (P Q:Pt):(eadd P Q).Ok:=⟨fmul_lt _ _,fmul_lt _ _,fmul_lt _ _,fmul_lt _ _⟩
theorem one_lt:1 < p:=by decide +kernel
theorem nought_ok:nought.Ok:=⟨p_pos,one_lt,one_lt,p_pos⟩
theorem base_ok:base.Ok:=⟨by decide +kernel,by decide +kernel,one_lt,fmul_lt _ _⟩
theorem emul_ok (P:Pt) (k:Nat):∀ n,(emul P k n).Ok
 | 0=>nought_ok
 | n+1=>by
  unfold emul
  split
  ·exact eadd_ok _ _
  ·exact eadd_ok _ _
theorem ebytes_lt (P:Pt):ebytes P < 256 ^ 32:=by
 have h1:=fmul_lt P.y (finv P.z)
 have h2:fmul P.x (finv P.z) % 2 < 2:=Nat.mod_lt _ (by decide)
 have h3:=p_eq
 have h4:(256:Nat) ^ 32=2 ^ 255+2 ^ 255:=by decide +kernel
 unfold ebytes
 rw [h4,← h3]
 rcases (show fmul P.x (finv P.z) % 2=0∨fmul P.x (finv P.z) % 2=1 by omega) with h|h <;> rw [h] <;> omega
theorem eread_ok (v:Nat) (P:Pt) (h:eread v=some P):P.Ok:=by
 unfold eread at h
 simp only at h
 split at h
 ·rename_i hy
  split at h
  ·cases h
   refine ⟨?_,hy,one_lt,fmul_lt _ _⟩
   show (if _ then _ else _) < p
   split
   ·exact fsub_lt _ _
   ·exact fsqrt_lt _
  ·cases h
 ·cases h
theorem b_ok:ebytes base=46316835694926478169428394003475163141307993866256225615783033603165251855960:=by decide +kernel
theorem b_read:(eread 46316835694926478169428394003475163141307993866256225615783033603165251855960).map (fun P=>(P.x,P.y))=some (bx,bY):=by decide +kernel
/-! ### The ladder -/
structure La where
 a:Nat
 b:Nat
 c:Nat
 d:Nat
def lstep (x:Nat) (s:La):La :=
 let pp:=fmul (fadd s.a s.b) (fadd s.a s.b)
 let mm:=fmul (fsub s.a s.b) (fsub s.a s.b)
 let e:=fsub pp mm
 let da:=fmul (fsub s.c s.d) (fadd s.a s.b)
 let cb:=fmul (fadd s.c s.d) (fsub s.a s.b)
 ⟨fmul pp mm,fmul e (fadd pp (fmul 121665 e)),fmul (fadd da cb) (fadd da cb),fmul x (fmul (fsub da cb) (fsub da cb))⟩
def La.swap (s:La) (b:Nat):La:=if b=1 then ⟨s.c,s.d,s.a,s.b⟩ else s
/-- By the highest n of 255 bits. -/
def lgo (x k:Nat):Nat→La
 | 0=>⟨1,0,x,1⟩
 | n+1=>(lstep x ((lgo x k n).swap (k / 2 ^ (254 - n) % 2))).swap (k / 2 ^ (254 - n) % 2)
def x25519 (k u:Nat):Nat :=
 let s:=lgo (u % 2 ^ 255 % p) (clamp k) 255
 fmul s.a (finv s.b)
theorem x25519_lt (k u:Nat):x25519 k u < p:=fmul_lt _ _
theorem x_nine:x25519 (8+256 * 7) 9=x25519 (8+256 * 7) 9:=rfl
end Go.Proofs.YtodnkallpfkdiaaDoor.Cu
namespace Go.Proofs.YtodnkallpfkdiaaDoor.Sc
open Go.RowKit Lm
def q:Nat:=7237005577332262213973186563042994240857116359379907606001950938285454250989
theorem q_lt:2 * q+2 < 18446744073709551616 ^ 4:=by decide +kernel
theorem q_lt32:q < 256 ^ 32:=by decide +kernel
theorem q_pos:0 < q:=by decide +kernel
/-- What is read of V but for its lowest i bits, modulo q. -/
def upq (V i:Nat):Nat:=V / 2 ^ i % q
theorem upq_lt (V i:Nat):upq V i < q:=Nat.mod_lt _ q_pos
theorem upq_zero (V:Nat):upq V 0=V % q:=by simp [upq]
theorem upq_top (V i:Nat) (h:V < 2 ^ i):upq V i=0:=by rw [upq,Nat.div_eq_of_lt h];rfl
theorem bit_step (V i:Nat):V / 2 ^ i=2 * (V / 2 ^ (i+1))+V / 2 ^ i % 2:=by
 rw [Nat.pow_succ,← Nat.div_div_eq_div_mul]
 omega
theorem upq_step (V i n:Nat) (hn:n=2 * upq V (i+1)+V / 2 ^ i % 2):(if n < q then n else n - q)=upq V i:=by
 have h1:=upq_lt V (i+1)
 have h2:V / 2 ^ i % 2 < 2:=Nat.mod_lt _ (by decide)
 have e:upq V i=n % q:=by
  rw [upq,bit_step V i,hn,upq]
  rw [Nat.add_mod,Nat.mul_mod,← Nat.mul_mod_mod,← Nat.mul_mod,← Nat.add_mod]
 rw [e]
 split
 ·rename_i h;rw [Nat.mod_eq_of_lt h]
 ·rename_i h
  rw [Nat.mod_eq_sub_mod (by omega),Nat.mod_eq_of_lt (by omega)]
end Go.Proofs.YtodnkallpfkdiaaDoor.Sc
namespace Go.Proofs.YtodnkallpfkdiaaDoor.Fp
open Go.RowKit Lm
theorem zero_lim (w:World):(zeroValue 131).run Tryd.prog w = .ok (.agg (arr .u64 (List.replicate 4 0))) w:=by kernel_rfl
theorem size_lim:(Tryd.prog.info? 131).map (·.size)=some 4:=by kernel_rfl
theorem lim_s {xs:List Int} (h:xs.length=4):(Tryd.prog.info? 131).map (·.size)=some (arr .u64 xs).size:=by rw [arr_size,h];exact size_lim
theorem lim_i {xs:List Int} (h:xs.length=4):(Tryd.prog.info? 131).map (·.size)=some xs.length:=by rw [h];exact size_lim
/-- The limbs xs are the number a. -/
def N4 (xs:List Int) (a:Nat):Prop:=xs=nar (dig 18446744073709551616 4 a)∧a < 18446744073709551616 ^ 4
theorem N4.len {xs:List Int} {a:Nat} (h:N4 xs a):xs.length=4:=by rw [h.1,nar_len,dig_len]
theorem N4.cast {xs:List Int} {a b:Nat} (h:N4 xs a) (e:a=b):N4 xs b:=e▸h
theorem N4.inj {xs ys:List Int} {a b:Nat} (hx:N4 xs a) (hy:N4 ys b):(xs == ys)=decide (a=b):=by
 obtain ⟨rfl,h1⟩:=hx
 obtain ⟨rfl,h2⟩:=hy
 by_cases e:a=b
 ·subst e;simp
 ·rw [decide_eq_false e,beq_eq_false_iff_ne]
  intro h
  have h3:dig 18446744073709551616 4 a=dig 18446744073709551616 4 b:=by
   have:=congrArg (List.map Int.toNat) h
   have e:∀ l:List Nat,(nar l).map Int.toNat=l:=fun l=>by rw [nar,List.map_map];exact List.map_id l
   rwa [e,e] at this
  have h4:=congrArg (val 18446744073709551616) h3
  rw [val_dig,val_dig,Nat.mod_eq_of_lt h1,Nat.mod_eq_of_lt h2] at h4
  exact e h4
theorem vd (a:Nat) (h:a < 18446744073709551616 ^ 4):val 18446744073709551616 (dig 18446744073709551616 4 a)=a:=by rw [val_dig,Nat.mod_eq_of_lt h]
theorem n4_of (a:Nat) (h:a < 18446744073709551616 ^ 4):N4 (nar (dig 18446744073709551616 4 a)) a:=⟨rfl,h⟩
theorem T_pos:0 < 18446744073709551616 ^ 4:=by decide
/-- What is borrowed. -/
def brw (a b:Nat):Nat:=if a < b then 1 else 0
theorem brw_yes {a b:Nat} (h:a < b):brw a b=1:=if_pos h
theorem brw_no {a b:Nat} (h:¬ a < b):brw a b=0:=if_neg h
/-- What is carried. -/
def cry (a b:Nat):Nat:=(a+b) / 18446744073709551616 ^ 4
theorem ladd4 {xs ys:List Int} (a b:Nat) (w:World) (hx:N4 xs a) (hy:N4 ys b) :
  Calls Tryd.prog 131 #[.agg (arr .u64 xs), .agg (arr .u64 ys)] w fun e w'=>∃ zs,e = .returned (.tuple #[.agg (arr .u64 zs), .int .u64 ((cry a b:Nat):Int)])∧N4 zs ((a+b) % 18446744073709551616 ^ 4)∧Below w.heap.size w w':=by
 obtain ⟨rfl,h1⟩:=hx
 obtain ⟨rfl,h2⟩:=hy
 refine (ladd_any _ _ w (dig_len _ _ _) (dig_len _ _ _) (dig_lt _ (by decide) _ _) (dig_lt _ (by decide) _ _)).mono ?_
 rintro e w' ⟨rfl,hb⟩
 rw [vd a h1,vd b h2]
 exact ⟨_,rfl,n4_of _ (Nat.mod_lt _ T_pos),hb⟩
theorem lsub4 {xs ys:List Int} (a b:Nat) (w:World) (hx:N4 xs a) (hy:N4 ys b) :
  Calls Tryd.prog 151 #[.agg (arr .u64 xs), .agg (arr .u64 ys)] w fun e w'=>∃ zs,e = .returned (.tuple #[.agg (arr .u64 zs), .int .u64 ((brw a b:Nat):Int)])∧N4 zs ((a+18446744073709551616 ^ 4 - b) % 18446744073709551616 ^ 4)∧Below w.heap.size w w':=by
 obtain ⟨rfl,h1⟩:=hx
 obtain ⟨rfl,h2⟩:=hy
 refine (lsub_any _ _ w (dig_len _ _ _) (dig_len _ _ _) (dig_lt _ (by decide) _ _) (dig_lt _ (by decide) _ _)).mono ?_
 rintro e w' ⟨rfl,hb⟩
 rw [vd a h1,vd b h2]
 exact ⟨_,rfl,n4_of _ (Nat.mod_lt _ T_pos),hb⟩
theorem prime_any (w:World):Calls Tryd.prog 152 #[] w fun e w'=>∃ zs,e = .returned (.agg (arr .u64 zs))∧N4 zs p∧Below w.heap.size w w':=by
 have hn:=n4_of p p_lt
 obtain ⟨ps,hps⟩:∃ x,x=nar (dig 18446744073709551616 4 p):=⟨_,rfl⟩
 rw [← hps] at hn
 have HBL:Hid (∀ w,(Instr.build 131 #[(0, .int .u64 18446744073709551597),(1, .int .u64 18446744073709551615),(2, .int .u64 18446744073709551615),(3, .int .u64 9223372036854775807)]).run Tryd.prog w = .ok (.agg (arr .u64 ps)) w):=Lib.hid (fun w=>by rw [hps];kernel_rfl)
 have HPL:=Lib.hid hn.len
 have HN:=Lib.hid hn
 obtain ⟨zl,hzl⟩:∃ zs:List Int,zs=List.replicate 4 0:=⟨_,rfl⟩
 have HZzl:Hid (∀ w,(zeroValue 131).run Tryd.prog w = .ok (.agg (arr .u64 zl)) w):=Lib.hid (by intro w;rw [hzl];exact zero_lim w)
 have HLzl:Hid (zl.length=4):=Lib.hid (by rw [hzl];rfl)
 have HS0:=Lib.hid (Blk.one w (arr .u64 zl) 131)
 clear hzl hps hn
 go_enter Tryd.func152, Tryd.ntmps152
 go_wp2_with (first|((with_reducible refine aS 0 ?_);refine wpList_alloc_row rfl 131 rfl _ (HZzl.out _) ?_)|((with_reducible refine aS 1 ?_);refine wpList_build (by rfl) 131 _ rfl #[(0, .int .u64 18446744073709551597),(1, .int .u64 18446744073709551615),(2, .int .u64 18446744073709551615),(3, .int .u64 9223372036854775807)] rfl _ (HBL.out _) ?_)|((with_reducible refine aT 0 ?_);refine wpList_store_whole rfl 131 _ _ rfl (w.heap.size) _ _ 131 (HS0.out.get 0 rfl) rfl rfl (arr_len2 _ _ HPL.out HLzl.out) (lim_s HPL.out) (all_arr _ _) ?_;intro w1 hb1 hk1 hz1;have HB1:=Lib.hid (HS0.out.put 0 rfl hk1 hb1);clear hb1 hk1 hz1))
 (try simp only [Exit.then])
 refine bodyPost_ret (results_cell_row rfl _ _ (w.heap.size) 131 _ (0,0) _ rfl (HB1.out.get 0 rfl) Tryd.underlying131 rfl (lim_s HPL.out)) rfl ?_
 exact ⟨_,rfl,HN.out,HB1.out.below⟩
end Go.Proofs.YtodnkallpfkdiaaDoor.Fp
namespace Go.Proofs.YtodnkallpfkdiaaDoor.Fp
open Go.RowKit Lm
def itl (a:Nat):Nat→Nat
 | 0=>a
 | k+1=>less1 (itl a k)
theorem itl_lt (a:Nat) (h:a < 18446744073709551616 ^ 4):∀ k,itl a k < 18446744073709551616 ^ 4
 | 0=>h
 | k+1=>by
  have:=itl_lt a h k
  unfold itl less1
  split <;> omega
theorem itl_two (a:Nat) (h:a < 18446744073709551616 ^ 4):itl a 2=a % p:=lessen_eq a h
theorem sub_big (y:Nat) (hy:y < 18446744073709551616 ^ 4) (h:¬ y < p):(y+18446744073709551616 ^ 4 - p) % 18446744073709551616 ^ 4=y - p:=by
 have:=p_lt
 rw [show y+18446744073709551616 ^ 4 - p=y - p+18446744073709551616 ^ 4 by omega,Nat.add_mod_right,Nat.mod_eq_of_lt (by omega)]
theorem p_mod_lt (a:Nat):a % p < 18446744073709551616 ^ 4:=Nat.lt_trans (Nat.mod_lt _ p_pos) p_lt
theorem lessen_any {xs:List Int} (a:Nat) (w:World) (hx:N4 xs a):Calls Tryd.prog 118 #[.agg (arr .u64 xs)] w fun e w'=>∃ zs,e = .returned (.agg (arr .u64 zs))∧N4 zs (a % p)∧Below w.heap.size w w':=by
 obtain ⟨zl,hzl⟩:∃ zs:List Int,zs=List.replicate 4 0:=⟨_,rfl⟩
 have HZzl:Hid (∀ w,(zeroValue 131).run Tryd.prog w = .ok (.agg (arr .u64 zl)) w):=Lib.hid (by intro w;rw [hzl];exact zero_lim w)
 have HLzl:Hid (zl.length=4):=Lib.hid (by rw [hzl];rfl)
 have HX:=Lib.hid hx
 have HPR:=Lib.hid prime_any
 have HAL:Hid (∀ k,itl a k < 18446744073709551616 ^ 4):=Lib.hid (itl_lt a hx.2)
 have HA2:Hid (itl a 2=a % p):=Lib.hid (itl_two a hx.2)
 have HS0:=Lib.hid (Blk.two w (arr .u64 xs) (arr .u64 zl) 131 131)
 clear hzl hx
 go_enter Tryd.func118, Tryd.ntmps118
 go_wp2_with (first|((with_reducible refine aS 2 ?_);refine wpList_alloc_row rfl 131 rfl _ (HZzl.out _) ?_))
 go_loopw [5] (fun v wr=>∃ k:Nat,k≤2∧v = .int .i64 k∧∃ ys:List Int,N4 ys (itl a k)∧Blk w wr [(w.heap.size,arr .u64 ys, 131),(w.heap.size+1,arr .u64 zl, 131)]) (fun v _=>2 - (intOf v).toNat)
 case atStart=>exact ⟨0,Nat.zero_le _,rfl,xs,HX.out,HS0.out⟩
 clear HS0
 case round =>
 obtain ⟨k,hk,rfl,ys,hy,hB⟩:=hrel
 by_cases hlt:k < 2
 ·have HY:=Lib.hid hy
  have HYL:=Lib.hid hy.len
  have HB:=Lib.hid hB
  obtain ⟨y,hyy⟩:∃ y,y=itl a k:=⟨_,rfl⟩
  have HYT:Hid (y < 18446744073709551616 ^ 4):=Lib.hid (by rw [hyy];exact HAL.out k)
  have HYE:=Lib.hid hyy
  rw [← hyy] at HY
  clear hy hB hyy
  go_upto_region 3 with fail
  go_cut [3,4] (fun u3 u4 wx=>∃ gg xx,u3 = .pointer (some ⟨gg,0,none⟩)∧u4 = .int .u64 ((brw y p:Nat):Int)∧N4 xx ((y+18446744073709551616 ^ 4 - p) % 18446744073709551616 ^ 4)∧Blk w wx [(w.heap.size,arr .u64 ys, 131),(w.heap.size+1,arr .u64 zl, 131),(gg,arr .u64 xx, 131)])
  case first =>
   have HK0:=Lib.hid ((Kept.refl (fun _=>False) wr).drew)
   have HBd:=Lib.hid (HB.out.drew)
   refine wp_region_held_drew (S:=(fun w'=>Kept (fun _=>False) wr w')) (by kernel_rfl) (HK0.out) (fun hHeld=>?_)
   generalize wr.drew=wd at HK0 HBd hHeld ⊢
   refine' wpAnyH_take (i:=0) (oi:=(⟨some 8,_,_,_,_,none⟩:Oper)) (v:=_) rfl (by kernel_rfl) (by kernel_rfl) (by kernel_rfl) (fun _ _ _ h=>h) (yieldsIf_load_mid (by rfl) _ _ rfl _ _ rfl (ys.map (Value.int .u64)) _ ?hS301 Tryd.underlying131 rfl (by rw [List.length_map];exact lim_i HYL.out)) (by assumption) ?rest301
   case hS301=>(intro w hSw;(try dsimp only at hSw);exact range_part (hSw.blk (HB.out.get 0 rfl) (fun e=>e.elim)) 0 _ (by rw [List.length_map];exact arr_part _ _))
   (try simp only [Act.put,sA,sZ,sS])
   refine wpAnyH_ready (rs:=[1,6]) (by kernel_rfl) (by simp) ?_
   refine AllReadyH.cons (o:=(⟨some 9,_,_,_,_,none⟩:Oper)) rfl (fun K hK=>?_) ?_
   ·go_simp
    go_at_call 152
    refine (HPR.out _).mono ?_
    rintro e w302 ⟨z302,rfl,h302,hb302⟩
    have HZ302:=Lib.hid h302
    have HL302:=Lib.hid h302.len
    clear h302
    have HB302:=Lib.hid (HBd.out.kept hb302)
    have HK302:=Lib.hid (HK0.out.trans (Kept.of_below hb302))
    clear hb302
    (try dsimp only)
    clear HBd
    clear HK0
    clear hHeld
    refine hK.out _ _ (HK302.out) (fun hHeld=>?_)
    clear hK K
    (try simp only [Act.put,sA,sZ,sS])
    refine wpAnyH_ready (rs:=[2,6]) (by kernel_rfl) (by simp) ?_
    refine AllReadyH.cons (o:=({ dst:=some 10,op:=Op.call { callee:=Callee.value (Operand.func 151),args := #[Operand.tmp 8,Operand.tmp 9],argTypes := #[131, 131] },type := 168, pos := "field.go:24", after := #[{ on:=0,ground:=Ground.data },{ on:=1,ground:=Ground.data },{ on:=1,ground:=Ground.chain }],guard:=none }:Oper)) rfl (fun K hK=>?_) ?_
    ·go_simp
     go_at_call 151
     refine (lsub4 _ _ _ HY.out HZ302.out).mono ?_
     rintro e w303 ⟨z303,rfl,h303,hb303⟩
     have HZ303:=Lib.hid h303
     have HL303:=Lib.hid h303.len
     clear h303
     have HB303:=Lib.hid (HB302.out.kept hb303)
     have HK303:=Lib.hid (HK302.out.trans (Kept.of_below hb303))
     clear hb303
     (try dsimp only)
     clear HB302
     clear HK302
     clear hHeld
     refine hK.out _ _ (HK303.out) (fun hHeld=>?_)
     clear hK K
     (try simp only [Act.put,sA,sZ,sS])
     refine wpAnyH_take (i:=3) (oi:=({ dst:=some 7,op:=Op.move (Operand.tmp 10),type := 168, pos := "field.go:24", after := #[{ on:=2,ground:=Ground.data }],guard:=none }:Oper)) (v:=?v304) rfl (by kernel_rfl) (by kernel_rfl) (by kernel_rfl) (fun _ _ _ h=>h) (Or.inl ⟨by rfl,?hy304⟩) (by assumption) ?rest304
     case hy304=>(intro w hSw;(try dsimp only at hSw);go_simp;try (with_reducible rfl))
     (try simp only [Act.put,sA,sZ,sS])
     refine wpAnyH_take (i:=4) (oi:=(⟨some 11,_,_,_,_,none⟩:Oper)) (v:=?v305) rfl (by kernel_rfl) (by kernel_rfl) (by kernel_rfl) (fun _ _ _ h=>h) (Or.inl ⟨by rfl,?hy305⟩) (by assumption) ?rest305
     case hy305=>(intro w hSw;(try dsimp only at hSw);go_simp;try (with_reducible rfl))
     (try simp only [Act.put,sA,sZ,sS])
     refine wpAnyH_take (i:=5) (oi:=(⟨some 12,_,_,_,_,none⟩:Oper)) (v:=?v306) rfl (by kernel_rfl) (by kernel_rfl) (by kernel_rfl) (fun _ _ _ h=>h) (Or.inl ⟨by rfl,?hy306⟩) (by assumption) ?rest306
     case hy306=>(intro w hSw;(try dsimp only at hSw);go_simp;try (with_reducible rfl))
     (try simp only [Act.put,sA,sZ,sS])
     refine wpAnyH_ready (rs:=[6]) (by kernel_rfl) (by simp) ?_
     refine AllReadyH.cons (o:=(⟨some 3,_,_,_,_,none⟩:Oper)) rfl (fun K hK=>?_) AllReadyH.nil
     refine step_alloc_row rfl 131 rfl _ (HZzl.out _) ?_
     have HB307:=Lib.hid (HB303.out.alloc (arr .u64 zl) 131)
     have HK307:=Lib.hid (HK303.out.alloc (.cells (arr .u64 zl) 131))
     have HN307:=Lib.hid (show wr.heap.size≤(w303).heap.size from HK303.out.size)
     generalize (w303).heap.size=g307 at HB307 HN307 ⊢
     generalize (w303).alloc (.cells (arr .u64 zl) 131)=w307 at HB307 HK307 ⊢
     clear HB303
     clear HK303
     clear hHeld
     refine hK.out _ _ (HK307.out) (fun hHeld=>?_)
     clear hK K
     (try simp only [Act.put,sA,sZ,sS])
     refine wpAnyH_ready (rs:=[7]) (by kernel_rfl) (by simp) ?_
     refine AllReadyH.cons (o:=(⟨none,_,_,_,_,none⟩:Oper)) rfl (fun K hK=>?_) AllReadyH.nil
     refine step_store_whole rfl 131 (.tmp 3) (.tmp 11) rfl (g307) _ _ _ (HB307.out.get 2 rfl) rfl rfl (arr_len2 _ _ HL303.out HLzl.out) (lim_s HL303.out) (all_arr _ _) ?_
     intro w308 hb308 hk308 hz308
     have HB308:=Lib.hid (HB307.out.put 2 rfl hk308 hb308)
     have HK308:=Lib.hid (HK307.out.trans_new hk308 (fun i hi e=>absurd hi (by rw [e];exact Nat.not_lt.2 HN307.out)))
     clear hb308 hk308 hz308
     clear HB307
     clear HK307
     clear hHeld
     refine hK.out _ _ (HK308.out) (fun hHeld=>?_)
     clear hK K
     (try simp only [Act.put])
     refine wpAnyH_take (i:=8) (oi:=(⟨some 4,_,_,_,_,none⟩:Oper)) (v:=?v309) rfl (by kernel_rfl) (by kernel_rfl) (by kernel_rfl) (fun _ _ _ h=>h) (Or.inl ⟨by rfl,?hy309⟩) (by assumption) ?rest309
     case hy309=>(intro w hSw;(try dsimp only at hSw);go_simp;try (with_reducible rfl))
     (try simp only [Act.put,sA,sZ,sS])
     refine wpAnyH_done (by kernel_rfl) ?_ _
     go_wp2_with fail
     go_meet
     exact ⟨_,_,rfl,rfl,HZ303.out,HB308.out⟩
    refine AllReadyH.cons (o:=(⟨some 3,_,_,_,_,none⟩:Oper)) rfl (fun K hK=>?_) ?_
    ·refine step_alloc_row rfl 131 rfl _ (HZzl.out _) ?_
     have HB310:=Lib.hid (HB302.out.alloc (arr .u64 zl) 131)
     have HK310:=Lib.hid (HK302.out.alloc (.cells (arr .u64 zl) 131))
     have HN310:=Lib.hid (show wr.heap.size≤(w302).heap.size from HK302.out.size)
     generalize (w302).heap.size=g310 at HB310 HN310 ⊢
     generalize (w302).alloc (.cells (arr .u64 zl) 131)=w310 at HB310 HK310 ⊢
     clear HB302
     clear HK302
     clear hHeld
     refine hK.out _ _ (HK310.out) (fun hHeld=>?_)
     clear hK K
     (try simp only [Act.put,sA,sZ,sS])
     refine wpAnyH_ready (rs:=[2]) (by kernel_rfl) (by simp) ?_
     refine AllReadyH.cons (o:=({ dst:=some 10,op:=Op.call { callee:=Callee.value (Operand.func 151),args := #[Operand.tmp 8,Operand.tmp 9],argTypes := #[131, 131] },type := 168, pos := "field.go:24", after := #[{ on:=0,ground:=Ground.data },{ on:=1,ground:=Ground.data },{ on:=1,ground:=Ground.chain }],guard:=none }:Oper)) rfl (fun K hK=>?_) AllReadyH.nil
     go_simp
     go_at_call 151
     refine (lsub4 _ _ _ HY.out HZ302.out).mono ?_
     rintro e w311 ⟨z311,rfl,h311,hb311⟩
     have HZ311:=Lib.hid h311
     have HL311:=Lib.hid h311.len
     clear h311
     have HB311:=Lib.hid (HB310.out.kept hb311)
     have HK311:=Lib.hid (HK310.out.trans (Kept.of_below hb311))
     clear hb311
     (try dsimp only)
     clear HB310
     clear HK310
     clear hHeld
     refine hK.out _ _ (HK311.out) (fun hHeld=>?_)
     clear hK K
     (try simp only [Act.put,sA,sZ,sS])
     refine wpAnyH_take (i:=3) (oi:=({ dst:=some 7,op:=Op.move (Operand.tmp 10),type := 168, pos := "field.go:24", after := #[{ on:=2,ground:=Ground.data }],guard:=none }:Oper)) (v:=?v312) rfl (by kernel_rfl) (by kernel_rfl) (by kernel_rfl) (fun _ _ _ h=>h) (Or.inl ⟨by rfl,?hy312⟩) (by assumption) ?rest312
     case hy312=>(intro w hSw;(try dsimp only at hSw);go_simp;try (with_reducible rfl))
     (try simp only [Act.put,sA,sZ,sS])
     refine wpAnyH_take (i:=4) (oi:=(⟨some 11,_,_,_,_,none⟩:Oper)) (v:=?v313) rfl (by kernel_rfl) (by kernel_rfl) (by kernel_rfl) (fun _ _ _ h=>h) (Or.inl ⟨by rfl,?hy313⟩) (by assumption) ?rest313
     case hy313=>(intro w hSw;(try dsimp only at hSw);go_simp;try (with_reducible rfl))
     (try simp only [Act.put,sA,sZ,sS])
     refine wpAnyH_take (i:=5) (oi:=(⟨some 12,_,_,_,_,none⟩:Oper)) (v:=?v314) rfl (by kernel_rfl) (by kernel_rfl) (by kernel_rfl) (fun _ _ _ h=>h) (Or.inl ⟨by rfl,?hy314⟩) (by assumption) ?rest314
     case hy314=>(intro w hSw;(try dsimp only at hSw);go_simp;try (with_reducible rfl))
     (try simp only [Act.put,sA,sZ,sS])
     refine wpAnyH_ready (rs:=[7]) (by kernel_rfl) (by simp) ?_
     refine AllReadyH.cons (o:=(⟨none,_,_,_,_,none⟩:Oper)) rfl (fun K hK=>?_) AllReadyH.nil
     refine step_store_whole rfl 131 (.tmp 3) (.tmp 11) rfl (g310) _ _ _ (HB311.out.get 2 rfl) rfl rfl (arr_len2 _ _ HL311.out HLzl.out) (lim_s HL311.out) (all_arr _ _) ?_
     intro w315 hb315 hk315 hz315
     have HB315:=Lib.hid (HB311.out.put 2 rfl hk315 hb315)
     have HK315:=Lib.hid (HK311.out.trans_new hk315 (fun i hi e=>absurd hi (by rw [e];exact Nat.not_lt.2 HN310.out)))
     clear hb315 hk315 hz315
     clear HB311
     clear HK311
     clear hHeld
     refine hK.out _ _ (HK315.out) (fun hHeld=>?_)
     clear hK K
     (try simp only [Act.put])
     refine wpAnyH_take (i:=8) (oi:=(⟨some 4,_,_,_,_,none⟩:Oper)) (v:=?v316) rfl (by kernel_rfl) (by kernel_rfl) (by kernel_rfl) (fun _ _ _ h=>h) (Or.inl ⟨by rfl,?hy316⟩) (by assumption) ?rest316
     case hy316=>(intro w hSw;(try dsimp only at hSw);go_simp;try (with_reducible rfl))
     (try simp only [Act.put,sA,sZ,sS])
     refine wpAnyH_done (by kernel_rfl) ?_ _
     go_wp2_with fail
     go_meet
     exact ⟨_,_,rfl,rfl,HZ311.out,HB315.out⟩
    exact AllReadyH.nil
   refine AllReadyH.cons (o:=(⟨some 3,_,_,_,_,none⟩:Oper)) rfl (fun K hK=>?_) ?_
   ·refine step_alloc_row rfl 131 rfl _ (HZzl.out _) ?_
    have HB317:=Lib.hid (HBd.out.alloc (arr .u64 zl) 131)
    have HK317:=Lib.hid (HK0.out.alloc (.cells (arr .u64 zl) 131))
    have HN317:=Lib.hid (show wr.heap.size≤(wd).heap.size from HK0.out.size)
    generalize (wd).heap.size=g317 at HB317 HN317 ⊢
    generalize (wd).alloc (.cells (arr .u64 zl) 131)=w317 at HB317 HK317 ⊢
    clear HBd
    clear HK0
    clear hHeld
    refine hK.out _ _ (HK317.out) (fun hHeld=>?_)
    clear hK K
    (try simp only [Act.put,sA,sZ,sS])
    refine wpAnyH_ready (rs:=[1]) (by kernel_rfl) (by simp) ?_
    refine AllReadyH.cons (o:=(⟨some 9,_,_,_,_,none⟩:Oper)) rfl (fun K hK=>?_) AllReadyH.nil
    go_simp
    go_at_call 152
    refine (HPR.out _).mono ?_
    rintro e w318 ⟨z318,rfl,h318,hb318⟩
    have HZ318:=Lib.hid h318
    have HL318:=Lib.hid h318.len
    clear h318
    have HB318:=Lib.hid (HB317.out.kept hb318)
    have HK318:=Lib.hid (HK317.out.trans (Kept.of_below hb318))
    clear hb318
    (try dsimp only)
    clear HB317
    clear HK317
    clear hHeld
    refine hK.out _ _ (HK318.out) (fun hHeld=>?_)
    clear hK K
    (try simp only [Act.put,sA,sZ,sS])
    refine wpAnyH_ready (rs:=[2]) (by kernel_rfl) (by simp) ?_
    refine AllReadyH.cons (o:=({ dst:=some 10,op:=Op.call { callee:=Callee.value (Operand.func 151),args := #[Operand.tmp 8,Operand.tmp 9],argTypes := #[131, 131] },type := 168, pos := "field.go:24", after := #[{ on:=0,ground:=Ground.data },{ on:=1,ground:=Ground.data },{ on:=1,ground:=Ground.chain }],guard:=none }:Oper)) rfl (fun K hK=>?_) AllReadyH.nil
    go_simp
    go_at_call 151
    refine (lsub4 _ _ _ HY.out HZ318.out).mono ?_
    rintro e w319 ⟨z319,rfl,h319,hb319⟩
    have HZ319:=Lib.hid h319
    have HL319:=Lib.hid h319.len
    clear h319
    have HB319:=Lib.hid (HB318.out.kept hb319)
    have HK319:=Lib.hid (HK318.out.trans (Kept.of_below hb319))
    clear hb319
    (try dsimp only)
    clear HB318
    clear HK318
    clear hHeld
    refine hK.out _ _ (HK319.out) (fun hHeld=>?_)
    clear hK K
    (try simp only [Act.put,sA,sZ,sS])
    refine wpAnyH_take (i:=3) (oi:=({ dst:=some 7,op:=Op.move (Operand.tmp 10),type := 168, pos := "field.go:24", after := #[{ on:=2,ground:=Ground.data }],guard:=none }:Oper)) (v:=?v320) rfl (by kernel_rfl) (by kernel_rfl) (by kernel_rfl) (fun _ _ _ h=>h) (Or.inl ⟨by rfl,?hy320⟩) (by assumption) ?rest320
    case hy320=>(intro w hSw;(try dsimp only at hSw);go_simp;try (with_reducible rfl))
    (try simp only [Act.put,sA,sZ,sS])
    refine wpAnyH_take (i:=4) (oi:=(⟨some 11,_,_,_,_,none⟩:Oper)) (v:=?v321) rfl (by kernel_rfl) (by kernel_rfl) (by kernel_rfl) (fun _ _ _ h=>h) (Or.inl ⟨by rfl,?hy321⟩) (by assumption) ?rest321
    case hy321=>(intro w hSw;(try dsimp only at hSw);go_simp;try (with_reducible rfl))
    (try simp only [Act.put,sA,sZ,sS])
    refine wpAnyH_take (i:=5) (oi:=(⟨some 12,_,_,_,_,none⟩:Oper)) (v:=?v322) rfl (by kernel_rfl) (by kernel_rfl) (by kernel_rfl) (fun _ _ _ h=>h) (Or.inl ⟨by rfl,?hy322⟩) (by assumption) ?rest322
    case hy322=>(intro w hSw;(try dsimp only at hSw);go_simp;try (with_reducible rfl))
    (try simp only [Act.put,sA,sZ,sS])
    refine wpAnyH_ready (rs:=[7]) (by kernel_rfl) (by simp) ?_
    refine AllReadyH.cons (o:=(⟨none,_,_,_,_,none⟩:Oper)) rfl (fun K hK=>?_) AllReadyH.nil
    refine step_store_whole rfl 131 (.tmp 3) (.tmp 11) rfl (g317) _ _ _ (HB319.out.get 2 rfl) rfl rfl (arr_len2 _ _ HL319.out HLzl.out) (lim_s HL319.out) (all_arr _ _) ?_
    intro w323 hb323 hk323 hz323
    have HB323:=Lib.hid (HB319.out.put 2 rfl hk323 hb323)
    have HK323:=Lib.hid (HK319.out.trans_new hk323 (fun i hi e=>absurd hi (by rw [e];exact Nat.not_lt.2 HN317.out)))
    clear hb323 hk323 hz323
    clear HB319
    clear HK319
    clear hHeld
    refine hK.out _ _ (HK323.out) (fun hHeld=>?_)
    clear hK K
    (try simp only [Act.put])
    refine wpAnyH_take (i:=8) (oi:=(⟨some 4,_,_,_,_,none⟩:Oper)) (v:=?v324) rfl (by kernel_rfl) (by kernel_rfl) (by kernel_rfl) (fun _ _ _ h=>h) (Or.inl ⟨by rfl,?hy324⟩) (by assumption) ?rest324
    case hy324=>(intro w hSw;(try dsimp only at hSw);go_simp;try (with_reducible rfl))
    (try simp only [Act.put,sA,sZ,sS])
    refine wpAnyH_done (by kernel_rfl) ?_ _
    go_wp2_with fail
    go_meet
    exact ⟨_,_,rfl,rfl,HZ319.out,HB323.out⟩
   exact AllReadyH.nil
  case rest =>
  obtain ⟨wy,rfl⟩:∃ x:World,x=wc:=⟨_,rfl⟩
  obtain ⟨gd,ds,rfl,rfl,h1,hb1⟩:=hcut
  have HB1:=Lib.hid hb1
  have HD:=Lib.hid h1
  have HDL:=Lib.hid h1.len
  clear h1 hb1 HB
  by_cases hp:y < p
  ·rw [brw_yes hp]
   have HN:Hid (itl a (k+1)=y):=Lib.hid (by rw [itl,← HYE.out,less1,if_pos hp])
   have hbv:(((1:Nat):Int) == 0)=false:=rfl
   clear hp
   go_wp2_with fail
   go_roundw
   case rel=>exact ⟨k+1,by omega,by go_num,ys,by rw [HN.out];exact HY.out,HB1.out.less 2⟩
   case measure=>simp [intOf];omega
  ·rw [brw_no hp]
   have HN:Hid (itl a (k+1)=(y+18446744073709551616 ^ 4 - p) % 18446744073709551616 ^ 4):=Lib.hid (by rw [itl,← HYE.out,less1,if_neg hp,sub_big y HYT.out hp])
   have hbv:(((0:Nat):Int) == 0)=true:=rfl
   clear hp
   go_wp2_with (first|((with_reducible refine aS 15 ?_);refine wpList_load_part rfl 131 _ rfl (gd) 0 _ 131 (0,0) _ (HB1.out.get 2 rfl) rfl .u64 ds (arr_part _ _) Tryd.underlying131 rfl (lim_i HDL.out) ?_)|((with_reducible refine aT 1 ?_);refine wpList_store_whole rfl 131 _ _ rfl (w.heap.size) _ _ 131 (HB1.out.get 0 rfl) rfl rfl (arr_len2 _ _ HDL.out HYL.out) (lim_s HDL.out) (all_arr _ _) ?_;intro w7 hb7 hk7 hz7;have HB7:=Lib.hid (HB1.out.put 0 rfl hk7 hb7);clear hb7 hk7 hz7))
   go_roundw
   case rel=>exact ⟨k+1,by omega,by go_num,ds,by rw [HN.out];exact HD.out,HB7.out.less 2⟩
   case measure=>simp [intOf];omega
 ·obtain rfl:k=2:=by omega
  rw [HA2.out] at hy
  have HY:=Lib.hid hy
  have HYL:=Lib.hid hy.len
  have HB:=Lib.hid hB
  clear hy hB
  go_wp2_with (first|((with_reducible refine aS 17 ?_);refine wpList_load_part rfl 131 _ rfl (w.heap.size) 0 _ 131 (0,0) _ (HB.out.get 0 rfl) rfl .u64 ys (arr_part _ _) Tryd.underlying131 rfl (lim_i HYL.out) ?_)|((with_reducible refine aT 2 ?_);refine wpList_store_whole rfl 131 _ _ rfl (w.heap.size+1) _ _ 131 (HB.out.get 1 rfl) rfl rfl (arr_len2 _ _ HYL.out HLzl.out) (lim_s HYL.out) (all_arr _ _) ?_;intro w7 hb7 hk7 hz7;have HB7:=Lib.hid (HB.out.put 1 rfl hk7 hb7);clear hb7 hk7 hz7))
  (try simp only [Exit.inBlock,Exit.then])
  refine bodyPost_ret (results_cell_row rfl _ _ (w.heap.size+1) 131 _ (0,0) _ rfl (HB7.out.get 1 rfl) Tryd.underlying131 rfl (lim_s HYL.out)) rfl ?_
  exact ⟨_,rfl,HY.out,HB7.out.below⟩
end Go.Proofs.YtodnkallpfkdiaaDoor.Fp
namespace Go.Proofs.YtodnkallpfkdiaaDoor.Fp
open Go.RowKit Lm
theorem build_raw (v:Int) (w:World):(Instr.build 131 #[(0, .int .u64 v)]).run Tryd.prog w = .ok (.agg (arr .u64 [v,0,0,0])) w:=by kernel_rfl
theorem dig_small (v:Nat) (hv:v < 18446744073709551616):dig 18446744073709551616 4 v=[v,0,0,0]:=by
 simp only [dig]
 rw [Nat.mod_eq_of_lt hv,Nat.div_eq_of_lt hv]
theorem n4_small (v:Nat) (hv:v < 18446744073709551616):N4 [(v:Int),0,0,0] v:=⟨by rw [dig_small v hv];rfl,Nat.lt_of_lt_of_le hv (by decide)⟩
theorem fold_any {xs:List Int} (x c:Nat) (w:World) (hx:N4 xs x) (hc:c≤1000):Calls Tryd.prog 155 #[.agg (arr .u64 xs), .int .u64 c] w fun e w'=>∃ zs,e = .returned (.agg (arr .u64 zs))∧N4 zs ((x+18446744073709551616 ^ 4 * c) % p)∧Below w.heap.size w w':=by
 obtain ⟨f1,f2⟩:=fold_eq x c hx.2 hc
 rw [show (x+38 * c) / 18446744073709551616 ^ 4=cry x (38 * c) from rfl] at f1 f2
 obtain ⟨c1,hc1⟩:∃ c1,c1=cry x (38 * c):=⟨_,rfl⟩
 rw [← hc1] at f1 f2
 have e1:38 * (c:Int)=((38 * c:Nat):Int):=by omega
 have e2:38 * (c1:Int)=((38 * c1:Nat):Int):=by omega
 have hn1:=n4_small (38 * c) (by omega)
 have hn2:=n4_small (38 * c1) (by omega)
 have hb1:=fun w=>build_raw (38 * (c:Int)) w
 have hb2:=fun w=>build_raw (38 * (c1:Int)) w
 rw [e1] at hb1
 rw [e2] at hb2
 obtain ⟨b1,hB1⟩:∃ b:List Int,b=[((38 * c:Nat):Int),0,0,0]:=⟨_,rfl⟩
 obtain ⟨b2,hB2⟩:∃ b:List Int,b=[((38 * c1:Nat):Int),0,0,0]:=⟨_,rfl⟩
 rw [← hB1] at hn1 hb1
 rw [← hB2] at hn2 hb2
 rw [← e1] at hb1
 rw [← e2] at hb2
 have HN1:=Lib.hid hn1
 have HN2:=Lib.hid hn2
 have HBB1:=Lib.hid hb1
 have HBB2:=Lib.hid hb2
 have HX:=Lib.hid hx
 have HXL:=Lib.hid hx.len
 have HF1:=Lib.hid f1
 have HC1:=Lib.hid hc1
 obtain ⟨zl,hzl⟩:∃ zs:List Int,zs=List.replicate 4 0:=⟨_,rfl⟩
 have HZzl:Hid (∀ w,(zeroValue 131).run Tryd.prog w = .ok (.agg (arr .u64 zl)) w):=Lib.hid (by intro w;rw [hzl];exact zero_lim w)
 have HLzl:Hid (zl.length=4):=Lib.hid (by rw [hzl];rfl)
 have HS0:=Lib.hid (Blk.two w (arr .u64 xs) (arr .u64 zl) 131 131)
 clear hzl hx hn1 hn2 hb1 hb2 f1 hc1 e1 e2 hB1 hB2
 go_enter Tryd.func155, Tryd.ntmps155
 go_upto_region 2 with (first|((with_reducible refine aS 4 ?_);refine wpList_alloc_row rfl 131 rfl _ (HZzl.out _) ?_)|((with_reducible refine aS 7 ?_);refine wpList_load_part rfl 131 _ rfl (w.heap.size) 0 _ 131 (0,0) _ (HS0.out.get 0 rfl) rfl .u64 xs (arr_part _ _) Tryd.underlying131 rfl (lim_i HXL.out) ?_)|((with_reducible refine aS 10 ?_);refine wpList_build (by rfl) 131 _ rfl #[(0, .int .u64 (38 * (c:Int)))] rfl _ (HBB1.out _) ?_)|((with_reducible show Calls _ _ #[.agg (arr _ xs), .agg (arr _ b1)] _ _);go_at_call 131; refine (ladd4 _ _ _ HX.out HN1.out).mono ?_;rintro e w1 ⟨z1,rfl,h1,hb1⟩;have HZ1:=Lib.hid h1;have HL1:=Lib.hid h1.len;have HB1:=Lib.hid (HS0.out.kept hb1);clear h1 hb1)|((with_reducible refine aT 2 ?_);refine wpList_store_whole rfl 131 _ _ rfl (w.heap.size) _ _ 131 (HB1.out.get 0 rfl) rfl rfl (arr_len2 _ _ HL1.out HXL.out) (lim_s HL1.out) (all_arr _ _) ?_;intro w2 hb2 hk2 hz2;have HB2:=Lib.hid (HB1.out.put 0 rfl hk2 hb2);clear hb2 hk2 hz2))
 rw [← HC1.out]
 go_wp2_with (first|((with_reducible refine aS 15 ?_);refine wpList_load_part rfl 131 _ rfl (w.heap.size) 0 _ 131 (0,0) _ (HB2.out.get 0 rfl) rfl .u64 z1 (arr_part _ _) Tryd.underlying131 rfl (lim_i HL1.out) ?_)|((with_reducible refine aS 18 ?_);refine wpList_build (by rfl) 131 _ rfl #[(0, .int .u64 (38 * (c1:Int)))] rfl _ (HBB2.out _) ?_)|((with_reducible show Calls _ _ #[.agg (arr _ z1), .agg (arr _ b2)] _ _);go_at_call 131; refine (ladd4 _ _ _ HZ1.out HN2.out).mono ?_;rintro e w3 ⟨z3,rfl,h3,hb3⟩;have HZ3:=Lib.hid h3;have HL3:=Lib.hid h3.len;have HB3:=Lib.hid (HB2.out.kept hb3);clear h3 hb3)|((with_reducible refine aT 2 ?_);refine wpList_store_whole rfl 131 _ _ rfl (w.heap.size) _ _ 131 (HB3.out.get 0 rfl) rfl rfl (arr_len2 _ _ HL3.out HL1.out) (lim_s HL3.out) (all_arr _ _) ?_;intro w4 hb4 hk4 hz4;have HB4:=Lib.hid (HB3.out.put 0 rfl hk4 hb4);clear hb4 hk4 hz4)|((with_reducible refine aS 22 ?_);refine wpList_load_part rfl 131 _ rfl (w.heap.size) 0 _ 131 (0,0) _ (HB4.out.get 0 rfl) rfl .u64 z3 (arr_part _ _) Tryd.underlying131 rfl (lim_i HL3.out) ?_)|((with_reducible show Calls _ 118 _ _ _);go_at_call 118; refine (lessen_any _ _ HZ3.out).mono ?_;rintro e w5 ⟨z5,rfl,h5,hb5⟩;have HZ5:=Lib.hid h5;have HL5:=Lib.hid h5.len;have HB5:=Lib.hid (HB4.out.kept hb5);clear h5 hb5)|((with_reducible refine aT 4 ?_);refine wpList_store_whole rfl 131 _ _ rfl (w.heap.size+1) _ _ 131 (HB5.out.get 1 rfl) rfl rfl (arr_len2 _ _ HL5.out HLzl.out) (lim_s HL5.out) (all_arr _ _) ?_;intro w6 hb6 hk6 hz6;have HB6:=Lib.hid (HB5.out.put 1 rfl hk6 hb6);clear hb6 hk6 hz6))
 (try simp only [Exit.then])
 refine bodyPost_ret (results_cell_row rfl _ _ (w.heap.size+1) 131 _ (0,0) _ rfl (HB6.out.get 1 rfl) Tryd.underlying131 rfl (lim_s HL5.out)) rfl ?_
 exact ⟨_,rfl,HZ5.out.cast HF1.out,HB6.out.below⟩
theorem plus_any {xs ys:List Int} (a b:Nat) (w:World) (hx:N4 xs a) (hy:N4 ys b):Calls Tryd.prog 121 #[.agg (arr .u64 xs), .agg (arr .u64 ys)] w fun e w'=>∃ zs,e = .returned (.agg (arr .u64 zs))∧N4 zs (fadd a b)∧Below w.heap.size w w':=by
 have hc:(a+b) / 18446744073709551616 ^ 4≤1000:=by
  have h1:=hx.2
  have h2:=hy.2
  have h3:(a+b) / 18446744073709551616 ^ 4 < 2:=Nat.div_lt_of_lt_mul (by omega)
  omega
 have HPE:=Lib.hid (plus_eq a b)
 rw [show (a+b) / 18446744073709551616 ^ 4=cry a b from rfl] at HPE hc
 obtain ⟨c,hcc⟩:∃ c,c=cry a b:=⟨_,rfl⟩
 rw [← hcc] at HPE hc
 have HCC:=Lib.hid hcc
 have HX:=Lib.hid hx
 have HY:=Lib.hid hy
 have HXL:=Lib.hid hx.len
 have HYL:=Lib.hid hy.len
 obtain ⟨zl,hzl⟩:∃ zs:List Int,zs=List.replicate 4 0:=⟨_,rfl⟩
 have HZzl:Hid (∀ w,(zeroValue 131).run Tryd.prog w = .ok (.agg (arr .u64 zl)) w):=Lib.hid (by intro w;rw [hzl];exact zero_lim w)
 have HLzl:Hid (zl.length=4):=Lib.hid (by rw [hzl];rfl)
 have HS0:=Lib.hid (Blk.three w (arr .u64 xs) (arr .u64 ys) (arr .u64 zl) 131 131 131)
 clear hzl hx hy hcc
 go_enter Tryd.func121, Tryd.ntmps121
 go_upto_region 1 with (first|((with_reducible refine aS 4 ?_);refine wpList_alloc_row rfl 131 rfl _ (HZzl.out _) ?_))
 (try simp only [World.size_alloc,Act.put,sA,sZ,sS])
 generalize (((w.alloc (.cells (arr .u64 xs) 131)).alloc (.cells (arr .u64 ys) 131)).alloc (.cells (arr .u64 zl) 131))=wb at HS0 ⊢
 go_upto_region 2 with (first|((with_reducible refine aS 8 ?_);refine wpList_load_part rfl 131 _ rfl (w.heap.size) (0) _ 131 (0,0) _ (HS0.out.get 0 rfl) rfl .u64 xs (arr_part _ _) Tryd.underlying131 rfl (lim_i HXL.out) ?_)|((with_reducible refine aS 9 ?_);refine wpList_load_part rfl 131 _ rfl (w.heap.size+1) (0) _ 131 (0,0) _ (HS0.out.get 1 rfl) rfl .u64 ys (arr_part _ _) Tryd.underlying131 rfl (lim_i HYL.out) ?_)|((with_reducible show Calls _ 131 #[.agg _, .agg _] _ _);go_at_call 131; refine (ladd4 _ _ _ HX.out HY.out).mono ?_;rintro e w501 ⟨z501,rfl,h501,hb501⟩;have HZ501:=Lib.hid h501;have HL501:=Lib.hid h501.len;clear h501;have HB501:=Lib.hid (HS0.out.kept hb501);clear hb501)|((with_reducible refine aS 5 ?_);refine wpList_alloc_row rfl 131 rfl _ (HZzl.out _) ?_;have HB502:=Lib.hid (HB501.out.alloc (arr .u64 zl) 131);generalize w501.heap.size=g502 at HB502 ⊢; generalize w501.alloc (.cells (arr .u64 zl) 131)=w502 at HB502 ⊢; clear HB501)|((with_reducible refine aT 5 (x:=(Operand.tmp 11)) ?_);refine wpList_store_whole rfl 131 _ _ rfl (g502) _ _ 131 (HB502.out.get 3 rfl) rfl rfl (arr_len2 _ _ HL501.out HLzl.out) (lim_s HL501.out) (all_arr _ _) ?_;intro w503 hb503 hk503 hz503;have HB503:=Lib.hid (HB502.out.put 3 rfl hk503 hb503);clear hb503 hk503 hz503;clear HB502))
 rw [← HCC.out]
 go_wp2_with (first|((with_reducible refine aS 13 ?_);refine wpList_load_part rfl 131 _ rfl (g502) (0) _ 131 (0,0) _ (HB503.out.get 3 rfl) rfl .u64 z501 (arr_part _ _) Tryd.underlying131 rfl (lim_i HL501.out) ?_)|((with_reducible show Calls _ 155 #[.agg _,_] _ _);go_at_call 155; refine (fold_any _ c _ HZ501.out hc).mono ?_;rintro e w504 ⟨z504,rfl,h504,hb504⟩;have HZ504:=Lib.hid h504;have HL504:=Lib.hid h504.len;clear h504;have HB504:=Lib.hid (HB503.out.kept hb504);clear hb504;clear HB503)|((with_reducible refine aT 4 (x:=(Operand.tmp 15)) ?_);refine wpList_store_whole rfl 131 _ _ rfl (w.heap.size+1+1) _ _ 131 (HB504.out.get 2 rfl) rfl rfl (arr_len2 _ _ HL504.out HLzl.out) (lim_s HL504.out) (all_arr _ _) ?_;intro w505 hb505 hk505 hz505;have HB505:=Lib.hid (HB504.out.put 2 rfl hk505 hb505);clear hb505 hk505 hz505;clear HB504))
 (try simp only [Exit.then])
 refine bodyPost_ret (results_cell_row rfl _ _ (w.heap.size+1+1) 131 _ (0,0) _ rfl (HB505.out.get 2 rfl) Tryd.underlying131 rfl (lim_s HL504.out)) rfl ?_
 exact ⟨_,rfl,HZ504.out.cast HPE.out,HB505.out.below⟩
theorem minus_any {xs ys:List Int} (a b:Nat) (w:World) (hx:N4 xs a) (hy:N4 ys b) (ha:a < p) (hb:b < p):Calls Tryd.prog 120 #[.agg (arr .u64 xs), .agg (arr .u64 ys)] w fun e w'=>∃ zs,e = .returned (.agg (arr .u64 zs))∧N4 zs (fsub a b)∧Below w.heap.size w w':=by
 have hme:=minus_eq a b ha hb
 have HME:=Lib.hid hme
 have HPR:=Lib.hid prime_any
 have HX:=Lib.hid hx
 have HY:=Lib.hid hy
 have HXL:=Lib.hid hx.len
 have HYL:=Lib.hid hy.len
 obtain ⟨zl,hzl⟩:∃ zs:List Int,zs=List.replicate 4 0:=⟨_,rfl⟩
 have HZzl:Hid (∀ w,(zeroValue 131).run Tryd.prog w = .ok (.agg (arr .u64 zl)) w):=Lib.hid (by intro w;rw [hzl];exact zero_lim w)
 have HLzl:Hid (zl.length=4):=Lib.hid (by rw [hzl];rfl)
 have HS0:=Lib.hid (Blk.three w (arr .u64 xs) (arr .u64 ys) (arr .u64 zl) 131 131 131)
 clear hzl hx hy hme
 go_enter Tryd.func120, Tryd.ntmps120
 go_upto_region 1 with (first|((with_reducible refine aS 4 ?_);refine wpList_alloc_row rfl 131 rfl _ (HZzl.out _) ?_))
 (try simp only [World.size_alloc,Act.put,sA,sZ,sS])
 generalize (((w.alloc (.cells (arr .u64 xs) 131)).alloc (.cells (arr .u64 ys) 131)).alloc (.cells (arr .u64 zl) 131))=wb at HS0 ⊢
 go_upto_region 2 with (first|((with_reducible refine aS 8 ?_);refine wpList_load_part rfl 131 _ rfl (w.heap.size) (0) _ 131 (0,0) _ (HS0.out.get 0 rfl) rfl .u64 xs (arr_part _ _) Tryd.underlying131 rfl (lim_i HXL.out) ?_)|((with_reducible refine aS 9 ?_);refine wpList_load_part rfl 131 _ rfl (w.heap.size+1) (0) _ 131 (0,0) _ (HS0.out.get 1 rfl) rfl .u64 ys (arr_part _ _) Tryd.underlying131 rfl (lim_i HYL.out) ?_)|((with_reducible show Calls _ 151 #[.agg _, .agg _] _ _);go_at_call 151; refine (lsub4 _ _ _ HX.out HY.out).mono ?_;rintro e w506 ⟨z506,rfl,h506,hb506⟩;have HZ506:=Lib.hid h506;have HL506:=Lib.hid h506.len;clear h506;have HB506:=Lib.hid (HS0.out.kept hb506);clear hb506)|((with_reducible refine aS 5 ?_);refine wpList_alloc_row rfl 131 rfl _ (HZzl.out _) ?_;have HB507:=Lib.hid (HB506.out.alloc (arr .u64 zl) 131);generalize w506.heap.size=g507 at HB507 ⊢; generalize w506.alloc (.cells (arr .u64 zl) 131)=w507 at HB507 ⊢; clear HB506)|((with_reducible refine aT 5 (x:=(Operand.tmp 11)) ?_);refine wpList_store_whole rfl 131 _ _ rfl (g507) _ _ 131 (HB507.out.get 3 rfl) rfl rfl (arr_len2 _ _ HL506.out HLzl.out) (lim_s HL506.out) (all_arr _ _) ?_;intro w508 hb508 hk508 hz508;have HB508:=Lib.hid (HB507.out.put 3 rfl hk508 hb508);clear hb508 hk508 hz508;clear HB507))
 by_cases hlt:a < b
 ·rw [brw_yes hlt]
  have hm:=HME.out
  rw [if_pos hlt] at hm
  have HM:=Lib.hid hm
  have hbv:(((1:Nat):Int) != 0)=true:=rfl
  clear hm hlt
  go_upto_region 3 with fail
  have HK0:=Lib.hid ((Kept.refl (fun x=>x=g507) w508).drew)
  have HBd:=Lib.hid (HB508.out.drew)
  refine wp_region_held_drew (S:=(fun w'=>Kept (fun x=>x=g507) w508 w')) (by kernel_rfl) (HK0.out) (fun hHeld=>?_)
  generalize w508.drew=wd at HK0 HBd hHeld ⊢
  refine wpAnyH_ready (rs:=[0,1]) (by kernel_rfl) (by simp) ?_
  refine AllReadyH.cons (o:=(⟨some 16,_,_,_,_,none⟩:Oper)) rfl (fun K hK=>?_) ?_
  ·refine step_load_part rfl 131 _ rfl (g507) (0) _ 131 (0,0) _ (HBd.out.get 3 rfl) rfl .u64 z506 (arr_part _ _) Tryd.underlying131 rfl (lim_i HL506.out) ?_
   clear hHeld
   refine hK.out _ _ (HK0.out) (fun hHeld=>?_)
   clear hK K
   (try simp only [Act.put,sA,sZ,sS])
   refine wpAnyH_ready (rs:=[1]) (by kernel_rfl) (by simp) ?_
   refine AllReadyH.cons (o:=(⟨some 17,_,_,_,_,none⟩:Oper)) rfl (fun K hK=>?_) AllReadyH.nil
   go_simp
   go_at_call 152
   refine (HPR.out _).mono ?_
   rintro e w510 ⟨z510,rfl,h510,hb510⟩
   have HZ510:=Lib.hid h510
   have HL510:=Lib.hid h510.len
   clear h510
   have HB510:=Lib.hid (HBd.out.kept hb510)
   have HK510:=Lib.hid (HK0.out.trans (Kept.of_below hb510))
   clear hb510
   (try dsimp only)
   clear HBd
   clear HK0
   clear hHeld
   refine hK.out _ _ (HK510.out) (fun hHeld=>?_)
   clear hK K
   (try simp only [Act.put,sA,sZ,sS])
   refine wpAnyH_ready (rs:=[2]) (by kernel_rfl) (by simp) ?_
   refine AllReadyH.cons (o:=({ dst:=some 18,op:=Op.call { callee:=Callee.value (Operand.func 131),args := #[Operand.tmp 16,Operand.tmp 17],argTypes := #[131, 131] },type := 168, pos := "field.go:48", after := #[{ on:=0,ground:=Ground.data },{ on:=1,ground:=Ground.data },{ on:=1,ground:=Ground.chain }],guard:=none }:Oper)) rfl (fun K hK=>?_) AllReadyH.nil
   go_simp
   go_at_call 131
   refine (ladd4 _ _ _ HZ506.out HZ510.out).mono ?_
   rintro e w511 ⟨z511,rfl,h511,hb511⟩
   have HZ511:=Lib.hid h511
   have HL511:=Lib.hid h511.len
   clear h511
   have HB511:=Lib.hid (HB510.out.kept hb511)
   have HK511:=Lib.hid (HK510.out.trans (Kept.of_below hb511))
   clear hb511
   (try dsimp only)
   clear HB510
   clear HK510
   clear hHeld
   refine hK.out _ _ (HK511.out) (fun hHeld=>?_)
   clear hK K
   (try simp only [Act.put,sA,sZ,sS])
   refine wpAnyH_take (i:=3) (oi:=({ dst:=some 15,op:=Op.move (Operand.tmp 18),type := 168, pos := "field.go:48", after := #[{ on:=2,ground:=Ground.data }],guard:=none }:Oper)) (v:=?v512) rfl (by kernel_rfl) (by kernel_rfl) (by kernel_rfl) (fun _ _ _ h=>h) (Or.inl ⟨by rfl,?hy512⟩) (by assumption) ?rest512
   case hy512=>(intro w hSw;(try dsimp only at hSw);go_simp;try (with_reducible rfl))
   (try simp only [Act.put,sA,sZ,sS])
   refine wpAnyH_take (i:=4) (oi:=(⟨some 19,_,_,_,_,none⟩:Oper)) (v:=?v513) rfl (by kernel_rfl) (by kernel_rfl) (by kernel_rfl) (fun _ _ _ h=>h) (Or.inl ⟨by rfl,?hy513⟩) (by assumption) ?rest513
   case hy513=>(intro w hSw;(try dsimp only at hSw);go_simp;try (with_reducible rfl))
   (try simp only [Act.put,sA,sZ,sS])
   refine wpAnyH_take (i:=5) (oi:=(⟨some 20,_,_,_,_,none⟩:Oper)) (v:=?v514) rfl (by kernel_rfl) (by kernel_rfl) (by kernel_rfl) (fun _ _ _ h=>h) (Or.inl ⟨by rfl,?hy514⟩) (by assumption) ?rest514
   case hy514=>(intro w hSw;(try dsimp only at hSw);go_simp;try (with_reducible rfl))
   (try simp only [Act.put,sA,sZ,sS])
   refine wpAnyH_ready (rs:=[6]) (by kernel_rfl) (by simp) ?_
   refine AllReadyH.cons (o:=(⟨none,_,_,_,_,none⟩:Oper)) rfl (fun K hK=>?_) AllReadyH.nil
   refine step_store_whole rfl 131 (.tmp 5) (.tmp 19) rfl (g507) _ _ _ (HB511.out.get 3 rfl) rfl rfl (arr_len2 _ _ HL511.out HL506.out) (lim_s HL511.out) (all_arr _ _) ?_
   intro w515 hb515 hk515 hz515
   have HB515:=Lib.hid (HB511.out.put 3 rfl hk515 hb515)
   have HK515:=Lib.hid (HK511.out.trans hk515)
   clear hb515 hk515 hz515
   clear HB511
   clear HK511
   clear hHeld
   refine hK.out _ _ (HK515.out) (fun hHeld=>?_)
   clear hK K
   (try simp only [Act.put])
   refine wpAnyH_done (by kernel_rfl) ?_ _
   (try simp only [Exit.then])
   go_wp2_with (first|((with_reducible refine aS 21 ?_);refine wpList_load_part rfl 131 _ rfl (g507) 0 _ 131 (0,0) _ (HB515.out.get 3 rfl) rfl .u64 z511 (arr_part _ _) Tryd.underlying131 rfl (lim_i HL511.out) ?_)|((with_reducible refine aT 4 ?_);refine wpList_store_whole rfl 131 _ _ rfl (w.heap.size+1+1) _ _ 131 (HB515.out.get 2 rfl) rfl rfl (arr_len2 _ _ HL511.out HLzl.out) (lim_s HL511.out) (all_arr _ _) ?_;intro w9 hb9 hk9 hz9;have HBq:=Lib.hid (HB515.out.put 2 rfl hk9 hb9);clear hb9 hk9 hz9))
   (try simp only [Exit.then])
   refine bodyPost_ret (results_cell_row rfl _ _ (w.heap.size+1+1) 131 _ (0,0) _ rfl (HBq.out.get 2 rfl) Tryd.underlying131 rfl (lim_s HL511.out)) rfl ?_
   exact ⟨_,rfl,HZ511.out.cast HM.out,HBq.out.below⟩
  refine AllReadyH.cons (o:=(⟨some 17,_,_,_,_,none⟩:Oper)) rfl (fun K hK=>?_) ?_
  ·go_simp
   go_at_call 152
   refine (HPR.out _).mono ?_
   rintro e w516 ⟨z516,rfl,h516,hb516⟩
   have HZ516:=Lib.hid h516
   have HL516:=Lib.hid h516.len
   clear h516
   have HB516:=Lib.hid (HBd.out.kept hb516)
   have HK516:=Lib.hid (HK0.out.trans (Kept.of_below hb516))
   clear hb516
   (try dsimp only)
   clear HBd
   clear HK0
   clear hHeld
   refine hK.out _ _ (HK516.out) (fun hHeld=>?_)
   clear hK K
   (try simp only [Act.put,sA,sZ,sS])
   refine wpAnyH_ready (rs:=[0]) (by kernel_rfl) (by simp) ?_
   refine AllReadyH.cons (o:=(⟨some 16,_,_,_,_,none⟩:Oper)) rfl (fun K hK=>?_) AllReadyH.nil
   refine step_load_part rfl 131 _ rfl (g507) (0) _ 131 (0,0) _ (HB516.out.get 3 rfl) rfl .u64 z506 (arr_part _ _) Tryd.underlying131 rfl (lim_i HL506.out) ?_
   clear hHeld
   refine hK.out _ _ (HK516.out) (fun hHeld=>?_)
   clear hK K
   (try simp only [Act.put,sA,sZ,sS])
   refine wpAnyH_ready (rs:=[2]) (by kernel_rfl) (by simp) ?_
   refine AllReadyH.cons (o:=({ dst:=some 18,op:=Op.call { callee:=Callee.value (Operand.func 131),args := #[Operand.tmp 16,Operand.tmp 17],argTypes := #[131, 131] },type := 168, pos := "field.go:48", after := #[{ on:=0,ground:=Ground.data },{ on:=1,ground:=Ground.data },{ on:=1,ground:=Ground.chain }],guard:=none }:Oper)) rfl (fun K hK=>?_) AllReadyH.nil
   go_simp
   go_at_call 131
   refine (ladd4 _ _ _ HZ506.out HZ516.out).mono ?_
   rintro e w518 ⟨z518,rfl,h518,hb518⟩
   have HZ518:=Lib.hid h518
   have HL518:=Lib.hid h518.len
   clear h518
   have HB518:=Lib.hid (HB516.out.kept hb518)
   have HK518:=Lib.hid (HK516.out.trans (Kept.of_below hb518))
   clear hb518
   (try dsimp only)
   clear HB516
   clear HK516
   clear hHeld
   refine hK.out _ _ (HK518.out) (fun hHeld=>?_)
   clear hK K
   (try simp only [Act.put,sA,sZ,sS])
   refine wpAnyH_take (i:=3) (oi:=({ dst:=some 15,op:=Op.move (Operand.tmp 18),type := 168, pos := "field.go:48", after := #[{ on:=2,ground:=Ground.data }],guard:=none }:Oper)) (v:=?v519) rfl (by kernel_rfl) (by kernel_rfl) (by kernel_rfl) (fun _ _ _ h=>h) (Or.inl ⟨by rfl,?hy519⟩) (by assumption) ?rest519
   case hy519=>(intro w hSw;(try dsimp only at hSw);go_simp;try (with_reducible rfl))
   (try simp only [Act.put,sA,sZ,sS])
   refine wpAnyH_take (i:=4) (oi:=(⟨some 19,_,_,_,_,none⟩:Oper)) (v:=?v520) rfl (by kernel_rfl) (by kernel_rfl) (by kernel_rfl) (fun _ _ _ h=>h) (Or.inl ⟨by rfl,?hy520⟩) (by assumption) ?rest520
   case hy520=>(intro w hSw;(try dsimp only at hSw);go_simp;try (with_reducible rfl))
   (try simp only [Act.put,sA,sZ,sS])
   refine wpAnyH_take (i:=5) (oi:=(⟨some 20,_,_,_,_,none⟩:Oper)) (v:=?v521) rfl (by kernel_rfl) (by kernel_rfl) (by kernel_rfl) (fun _ _ _ h=>h) (Or.inl ⟨by rfl,?hy521⟩) (by assumption) ?rest521
   case hy521=>(intro w hSw;(try dsimp only at hSw);go_simp;try (with_reducible rfl))
   (try simp only [Act.put,sA,sZ,sS])
   refine wpAnyH_ready (rs:=[6]) (by kernel_rfl) (by simp) ?_
   refine AllReadyH.cons (o:=(⟨none,_,_,_,_,none⟩:Oper)) rfl (fun K hK=>?_) AllReadyH.nil
   refine step_store_whole rfl 131 (.tmp 5) (.tmp 19) rfl (g507) _ _ _ (HB518.out.get 3 rfl) rfl rfl (arr_len2 _ _ HL518.out HL506.out) (lim_s HL518.out) (all_arr _ _) ?_
   intro w522 hb522 hk522 hz522
   have HB522:=Lib.hid (HB518.out.put 3 rfl hk522 hb522)
   have HK522:=Lib.hid (HK518.out.trans hk522)
   clear hb522 hk522 hz522
   clear HB518
   clear HK518
   clear hHeld
   refine hK.out _ _ (HK522.out) (fun hHeld=>?_)
   clear hK K
   (try simp only [Act.put])
   refine wpAnyH_done (by kernel_rfl) ?_ _
   (try simp only [Exit.then])
   go_wp2_with (first|((with_reducible refine aS 21 ?_);refine wpList_load_part rfl 131 _ rfl (g507) 0 _ 131 (0,0) _ (HB522.out.get 3 rfl) rfl .u64 z518 (arr_part _ _) Tryd.underlying131 rfl (lim_i HL518.out) ?_)|((with_reducible refine aT 4 ?_);refine wpList_store_whole rfl 131 _ _ rfl (w.heap.size+1+1) _ _ 131 (HB522.out.get 2 rfl) rfl rfl (arr_len2 _ _ HL518.out HLzl.out) (lim_s HL518.out) (all_arr _ _) ?_;intro w9 hb9 hk9 hz9;have HBq:=Lib.hid (HB522.out.put 2 rfl hk9 hb9);clear hb9 hk9 hz9))
   (try simp only [Exit.then])
   refine bodyPost_ret (results_cell_row rfl _ _ (w.heap.size+1+1) 131 _ (0,0) _ rfl (HBq.out.get 2 rfl) Tryd.underlying131 rfl (lim_s HL518.out)) rfl ?_
   exact ⟨_,rfl,HZ518.out.cast HM.out,HBq.out.below⟩
  exact AllReadyH.nil
 ·rw [brw_no hlt]
  have hm:=HME.out
  rw [if_neg hlt] at hm
  have HM:=Lib.hid hm
  have hbv:(((0:Nat):Int) != 0)=false:=rfl
  clear hm hlt
  go_wp2_with (first|((with_reducible refine aS 21 ?_);refine wpList_load_part rfl 131 _ rfl (g507) 0 _ 131 (0,0) _ (HB508.out.get 3 rfl) rfl .u64 z506 (arr_part _ _) Tryd.underlying131 rfl (lim_i HL506.out) ?_)|((with_reducible refine aT 4 ?_);refine wpList_store_whole rfl 131 _ _ rfl (w.heap.size+1+1) _ _ 131 (HB508.out.get 2 rfl) rfl rfl (arr_len2 _ _ HL506.out HLzl.out) (lim_s HL506.out) (all_arr _ _) ?_;intro w9 hb9 hk9 hz9;have HBq:=Lib.hid (HB508.out.put 2 rfl hk9 hb9);clear hb9 hk9 hz9))
  (try simp only [Exit.then])
  refine bodyPost_ret (results_cell_row rfl _ _ (w.heap.size+1+1) 131 _ (0,0) _ rfl (HBq.out.get 2 rfl) Tryd.underlying131 rfl (lim_s HL506.out)) rfl ?_
  exact ⟨_,rfl,HZ506.out.cast HM.out,HBq.out.below⟩
end Go.Proofs.YtodnkallpfkdiaaDoor.Fp
namespace Go.Proofs.YtodnkallpfkdiaaDoor.Fp
open Go.RowKit Lm
theorem size_8:(Tryd.prog.info? 172).map (·.size)=some 8:=by kernel_rfl
theorem t8_s {xs:List Int} (h:xs.length=8):(Tryd.prog.info? 172).map (·.size)=some (arr .u64 xs).size:=by rw [arr_size,h];exact size_8
theorem t8_i {xs:List Int} (h:xs.length=8):(Tryd.prog.info? 172).map (·.size)=some xs.length:=by rw [h];exact size_8
theorem getD_drop (xs:List Nat) (n i:Nat):(xs.drop n).getD i 0=xs.getD (n+i) 0:=by simp [List.getD,List.getElem?_drop]
theorem p38_le (y:Nat) (h:y < 18446744073709551616):y * 38≤18446744073709551615 * 18446744073709551615:=by omega
theorem times_any {xs ys:List Int} (a b:Nat) (w:World) (hx:N4 xs a) (hy:N4 ys b):Calls Tryd.prog 119 #[.agg (arr .u64 xs), .agg (arr .u64 ys)] w fun e w'=>∃ zs,e = .returned (.agg (arr .u64 zs))∧N4 zs (fmul a b)∧Below w.heap.size w w':=by
 have hm:=fun w=>lmul_any (dig 18446744073709551616 4 a) (dig 18446744073709551616 4 b) w (dig_len _ _ _) (dig_len _ _ _) (dig_lt _ (by decide) _ _) (dig_lt _ (by decide) _ _)
 rw [vd a hx.2,vd b hy.2,← hx.1,← hy.1] at hm
 obtain ⟨ws,hws⟩:∃ r,r=dig 18446744073709551616 8 (a * b):=⟨_,rfl⟩
 rw [← hws] at hm
 have WL:Hid (ws.length=8):=Lib.hid (by rw [hws,dig_len])
 have WB:Hid (∀ x∈ws,x < 18446744073709551616):=Lib.hid (by rw [hws];exact dig_lt _ (by decide) _ _)
 have hab:a * b < 18446744073709551616 ^ 8:=by
  rw [show 8=4+4 from rfl,Nat.pow_add]
  exact Nat.mul_lt_mul_of_lt_of_lt hx.2 hy.2
 have WV:Hid (a * b=val 18446744073709551616 (ws.take 4)+18446744073709551616 ^ 4 * val 18446744073709551616 (ws.drop 4)):=Lib.hid (by
  have h1:=val_append 18446744073709551616 (ws.take 4) (ws.drop 4)
  rw [List.take_append_drop,List.length_take,WL.out] at h1
  rw [show 18446744073709551616 ^ 4=18446744073709551616 ^ min 4 8 from rfl,← h1,hws,val_dig,Nat.mod_eq_of_lt hab])
 obtain ⟨w8,hw8⟩:∃ x,x=nar ws:=⟨_,rfl⟩
 rw [← hw8] at hm
 have W8L:Hid (w8.length=8):=Lib.hid (by rw [hw8,nar_len,WL.out])
 have W8G:Hid (∀ k,w8.getD k 0=((ws.getD k 0:Nat):Int)):=Lib.hid (fun k=>by rw [hw8,nar_get])
 have HM:=Lib.hid hm
 have HXL:=Lib.hid hx.len
 have HYL:=Lib.hid hy.len
 obtain ⟨zl,hzl⟩:∃ zs:List Int,zs=List.replicate 4 0:=⟨_,rfl⟩
 have HZzl:Hid (∀ w,(zeroValue 131).run Tryd.prog w = .ok (.agg (arr .u64 zl)) w):=Lib.hid (by intro w;rw [hzl];exact zero_lim w)
 have HLzl:Hid (zl.length=4):=Lib.hid (by rw [hzl];rfl)
 obtain ⟨z8,hz8⟩:∃ zs:List Int,zs=List.replicate 8 0:=⟨_,rfl⟩
 have HZz8:Hid (∀ w,(zeroValue 172).run Tryd.prog w = .ok (.agg (arr .u64 z8)) w):=Lib.hid (by intro w;rw [hz8];exact Lm.zero8 w)
 have HLz8:Hid (z8.length=8):=Lib.hid (by rw [hz8];rfl)
 have HZL0:Hid (zl=nar (List.replicate 4 0)):=Lib.hid (by rw [hzl,nar_zeros])
 have HS0:=Lib.hid (Blk.three w (arr .u64 xs) (arr .u64 ys) (arr .u64 zl) 131 131 131)
 clear hzl hz8 hx hy hm hws hw8 hab
 go_enter Tryd.func119, Tryd.ntmps119
 go_upto_region 1 with (first|((with_reducible refine aS 4 ?_);refine wpList_alloc_row rfl 131 rfl _ (HZzl.out _) ?_))
 (try simp only [World.size_alloc,Act.put,sA,sZ,sS])
 generalize (((w.alloc (.cells (arr .u64 xs) 131)).alloc (.cells (arr .u64 ys) 131)).alloc (.cells (arr .u64 zl) 131))=wb at HS0 ⊢
 go_upto_region 3 with (first|((with_reducible refine aS 12 ?_);refine wpList_load_part rfl 131 _ rfl (w.heap.size) 0 _ 131 (0,0) _ (HS0.out.get 0 rfl) rfl .u64 xs (arr_part _ _) Tryd.underlying131 rfl (lim_i HXL.out) ?_)|((with_reducible refine aS 13 ?_);refine wpList_load_part rfl 131 _ rfl (w.heap.size+1) 0 _ 131 (0,0) _ (HS0.out.get 1 rfl) rfl .u64 ys (arr_part _ _) Tryd.underlying131 rfl (lim_i HYL.out) ?_)|((with_reducible show Calls _ 133 _ _ _);go_at_call 133; refine (HM.out _).mono ?_;rintro e w1 ⟨rfl,hb1⟩;have HB1:=Lib.hid (HS0.out.kept hb1);clear hb1)|((with_reducible refine aS 5 ?_);refine wpList_alloc_row rfl 172 rfl _ (HZz8.out _) ?_;have HB2:=Lib.hid (HB1.out.alloc (arr .u64 z8) 172);generalize w1.heap.size=g5 at HB2 ⊢; generalize w1.alloc (.cells (arr .u64 z8) 172)=w2 at HB2 ⊢)|((with_reducible refine aT 5 ?_);refine wpList_store_whole rfl 172 _ _ rfl (g5) _ _ 172 (HB2.out.get 3 rfl) rfl rfl (arr_len2 _ _ W8L.out HLz8.out) (t8_s W8L.out) (all_arr _ _) ?_;intro w3 hb3 hk3 hz3;have HB3:=Lib.hid (HB2.out.put 3 rfl hk3 hb3);clear hb3 hk3 hz3)|((with_reducible refine aS 6 ?_);refine wpList_alloc_row rfl 131 rfl _ (HZzl.out _) ?_;have HB4:=Lib.hid (HB3.out.alloc (arr .u64 zl) 131);generalize w3.heap.size=g6 at HB4 ⊢; generalize w3.alloc (.cells (arr .u64 zl) 131)=w4 at HB4 ⊢))
 go_wp2_with fail
 go_loopw [7,15] (fun cv jv wr=>∃ (j c:Nat) (os:List Nat),j≤4∧jv = .int .i64 j∧cv = .int .u64 c∧c≤39∧os.length=4∧(∀ x∈os,x < 18446744073709551616)∧val 18446744073709551616 (os.take j)+18446744073709551616 ^ j * c=val 18446744073709551616 (ws.take j)+38 * val 18446744073709551616 ((ws.drop 4).take j)∧Blk w wr [(w.heap.size,arr .u64 xs, 131),(w.heap.size+1,arr .u64 ys, 131),(w.heap.size+1+1,arr .u64 zl, 131),(g5,arr .u64 w8, 172),(g6,arr .u64 (nar os), 131)]) (fun _ jv _=>4 - (intOf jv).toNat)
 case atStart=>exact ⟨0,0,List.replicate 4 0,Nat.zero_le _,rfl,rfl,Nat.zero_le _,by simp,by simp,by simp [val],by rw [← HZL0.out];exact HB4.out⟩
 clear HS0 HB1 HB2 HB3 HB4
 case round =>
 obtain ⟨j,c,os,hj,rfl,rfl,hc,hol,hob,hv,hB⟩:=hrel
 by_cases hlt:j < 4
 ·have q0:=arr_get' (hB.get 3 rfl) j (by rw [W8L.out];omega)
  have q1:=arr_get' (hB.get 3 rfl) (j+4) (by rw [W8L.out];omega)
  have q2:=arr_get' (hB.get 4 rfl) j (by rw [nar_len,hol];exact hlt)
  have q3:=free_blk (hB.get 4 rfl) j
  rw [W8G.out] at q0 q1
  have x1:=lt_getD WB.out (by decide) j
  have y1:=lt_getD WB.out (by decide) (j+4)
  have st:=fun lo c' hs=>times_step 18446744073709551616 j _ _ _ lo c c' (ws.getD j 0) (ws.getD (j+4) 0) hv hs
  have vm:=fun s=>val_take_set 18446744073709551616 os j s (by omega)
  have e38:(ws.drop 4).getD j 0=ws.getD (j+4) 0:=by rw [getD_drop,Nat.add_comm]
  have l38:(ws.drop 4).length=4:=by rw [List.length_drop,WL.out]
  have v2:=val_take_succ 18446744073709551616 (ws.drop 4) j (by rw [l38];exact hlt)
  rw [e38] at v2
  rw [← val_take_succ 18446744073709551616 ws j (by rw [WL.out];omega),← v2] at st
  clear e38 l38 v2
  generalize ws.getD j 0=x at q0 x1 st
  generalize ws.getD (j+4) 0=y at q1 y1 st
  obtain ⟨m1,m2⟩:=mul_bits (y * 38) c x (p38_le y y1) (by omega) x1
  have M1:=fun w=>mul64 y 38 y1 (by decide) w
  have a1:=add64 (y * 38 % 18446744073709551616) c 0 (by omega)
  have a2:=add64 ((y * 38 % 18446744073709551616+c) % 18446744073709551616) x 0 (by omega)
  rw [Nat.add_zero] at a1 a2
  have e0:((0:Nat):Int)=0:=rfl
  have e38:((38:Nat):Int)=38:=rfl
  rw [e0] at a1 a2
  rw [e38] at M1
  have k0:y * 38 / 18446744073709551616≤37:=by omega
  have k1:(y * 38 % 18446744073709551616+c) / 18446744073709551616≤1:=by omega
  have k2:((y * 38 % 18446744073709551616+c) % 18446744073709551616+x) / 18446744073709551616≤1:=by omega
  have k3:((y * 38 % 18446744073709551616+c) % 18446744073709551616+x) % 18446744073709551616 < 18446744073709551616:=Nat.mod_lt _ (by decide)
  generalize hP:y * 38=P at M1 a1 a2 k0 k1 k2 k3 m1 m2
  have k4:P % 18446744073709551616 < 18446744073709551616:=Nat.mod_lt _ (by decide)
  have k5:(P % 18446744073709551616+c) % 18446744073709551616 < 18446744073709551616:=Nat.mod_lt _ (by decide)
  generalize P / 18446744073709551616=h0 at M1 k0 m1 m2
  generalize P % 18446744073709551616=l0 at M1 a1 a2 k1 k2 k3 k4 k5 m1 m2
  generalize (l0+c) / 18446744073709551616=c1 at a1 k1 m1 m2
  generalize (l0+c) % 18446744073709551616=s1 at a1 a2 k2 k3 k5 m1 m2
  generalize (s1+x) / 18446744073709551616=c2 at a2 k2 m1 m2
  generalize (s1+x) % 18446744073709551616=lo at a2 k3 m1
  subst hP
  have hst:=st lo (h0+c1+c2) (by omega)
  rw [← vm] at hst
  have hb1:=hB.cell 4 rfl j (.int .u64 ((lo:Nat):Int))
  have e2:(arr .u64 (nar os)).setIfInBounds j (.int .u64 ((lo:Nat):Int))=arr .u64 (nar (os.set j lo)):=by rw [arr_set,← nar_set]
  have HB1:=Lib.hid (hb1.cast (l':=[(w.heap.size,arr .u64 xs, 131),(w.heap.size+1,arr .u64 ys, 131),(w.heap.size+1+1,arr .u64 zl, 131),(g5,arr .u64 w8, 172),(g6,arr .u64 (nar (os.set j lo)), 131)]) (by rw [← e2];rfl))
  have HST:=Lib.hid hst
  have HOL:Hid ((os.set j lo).length=4):=Lib.hid (by rw [List.length_set,hol])
  have HOB:Hid (∀ z∈os.set j lo,z < 18446744073709551616):=Lib.hid (lt_set hob j lo k3)
  have hc39:h0+c1+c2≤39:=by omega
  have HM1:=Lib.hid M1
  clear hb1 e2 hst st vm hB hol hob hv m1 m2 M1 e0 e38
  go_wp2_with (first|((with_reducible show Calls _ 153 _ _ _);go_at_call 153; refine (HM1.out _).mono ?_;rintro e w8' ⟨rfl,h8⟩;rw [h8];clear h8 w8'))
  go_roundw
  case rel=>exact ⟨j+1,h0+c1+c2,_,by omega,by go_num,by go_num,hc39,HOL.out,HOB.out,HST.out,HB1.out⟩
  case measure=>simp [intOf];omega
 ·obtain rfl:j=4:=by omega
  have l38:(ws.drop 4).length=4:=by rw [List.length_drop,WL.out]
  rw [List.take_of_length_le (Nat.le_of_eq hol),List.take_of_length_le (Nat.le_of_eq l38)] at hv
  have hn:=val_lt 18446744073709551616 os hob
  rw [hol] at hn
  have hte:=times_eq (a * b) _ c _ _ hv WV.out
  have hN:N4 (nar os) (val 18446744073709551616 os):=⟨congrArg nar (dig_eq 18446744073709551616 (by decide) 4 _ os hol hob rfl),hn⟩
  have HC:c≤1000:=by omega
  have HN:=Lib.hid hN
  have HNL:=Lib.hid hN.len
  have HTE:=Lib.hid hte
  have HB:=Lib.hid hB
  obtain ⟨o0,ho0⟩:∃ x,x=nar os:=⟨_,rfl⟩
  rw [← ho0] at HN HNL HB
  clear hB hv hn hte hN hol hob l38 ho0 hc
  go_wp2_with (first|((with_reducible refine aS 50 ?_);refine wpList_load_part rfl 131 _ rfl (g6) 0 _ 131 (0,0) _ (HB.out.get 4 rfl) rfl .u64 o0 (arr_part _ _) Tryd.underlying131 rfl (lim_i HNL.out) ?_)|((with_reducible show Calls _ 155 _ _ _);go_at_call 155; refine (fold_any _ c _ HN.out HC).mono ?_;rintro e w5 ⟨z5,rfl,h5,hb5⟩;have HZ5:=Lib.hid h5;have HL5:=Lib.hid h5.len;have HB5:=Lib.hid (HB.out.kept hb5);clear h5 hb5)|((with_reducible refine aT 4 ?_);refine wpList_store_whole rfl 131 _ _ rfl (w.heap.size+1+1) _ _ 131 (HB5.out.get 2 rfl) rfl rfl (arr_len2 _ _ HL5.out HLzl.out) (lim_s HL5.out) (all_arr _ _) ?_;intro w6 hb6 hk6 hz6;have HB6:=Lib.hid (HB5.out.put 2 rfl hk6 hb6);clear hb6 hk6 hz6))
  (try simp only [Exit.inBlock,Exit.then])
  refine bodyPost_ret (results_cell_row rfl _ _ (w.heap.size+1+1) 131 _ (0,0) _ rfl (HB6.out.get 2 rfl) Tryd.underlying131 rfl (lim_s HL5.out)) rfl ?_
  exact ⟨_,rfl,HZ5.out.cast HTE.out,HB6.out.below⟩
end Go.Proofs.YtodnkallpfkdiaaDoor.Fp
namespace Go.Proofs.YtodnkallpfkdiaaDoor.Fp
open Go.RowKit Lm
theorem and1w (y:Nat) (h:y < 18446744073709551616):bits .and .u64 (y:Int) 1=((y % 2:Nat):Int):=by
 have e:y &&& 1=y % 2:=Nat.and_two_pow_sub_one_eq_mod y 1
 have h1:(BitVec.ofInt 64 (y:Int)).toNat=y:=by rw [BitVec.ofInt_natCast,BitVec.toNat_ofNat];exact Nat.mod_eq_of_lt (by omega)
 have h2:(BitVec.ofInt 64 (1:Int)).toNat=1:=by decide
 show IntKind.u64.wrap ((BitVec.ofInt 64 (y:Int) &&& BitVec.ofInt 64 (1:Int)).toNat:Int)=_
 rw [BitVec.toNat_and,h1,h2,e,IntKind.wrap_u64]
 omega
theorem limb_bit (es:List Int) (v k:Nat) (he:es=nar (dig 18446744073709551616 4 v)) (hk:k < 256):∃ y:Nat,es.getD (k / 64) 0=y∧y < 18446744073709551616∧bits .and .u64 ((y:Int) / 2 ^ (k % 64)) 1=((v / 2 ^ k % 2:Nat):Int):=by
 refine ⟨v / 18446744073709551616 ^ (k / 64) % 18446744073709551616,by rw [he,nar_get,dig_get _ _ _ _ (by omega)],Nat.mod_lt _ (by decide),?_⟩
 have e1:((v / 18446744073709551616 ^ (k / 64) % 18446744073709551616:Nat):Int) / 2 ^ (k % 64)=((v / 18446744073709551616 ^ (k / 64) % 18446744073709551616 / 2 ^ (k % 64):Nat):Int):=by
  rw [Int.natCast_ediv,Int.natCast_pow];rfl
 rw [e1,and1w _ (Nat.lt_of_le_of_lt (Nat.div_le_self _ _) (Nat.mod_lt _ (by decide))),bit_limb]
theorem bit_any {xs:List Int} (a k b:Nat) (w:World) (hx:N4 xs a) (hk:k < 256) (hb:a / 2 ^ k % 2=b):Calls Tryd.prog 129 #[.agg (arr .u64 xs), .int .i64 k] w fun e w'=>e = .returned (.int .u64 (b:Int))∧Below w.heap.size w w':=by
 obtain ⟨y,hy,hy2,hbit⟩:=limb_bit xs a k hx.1 hk
 rw [hb] at hbit
 have hl:=hx.len
 have HS0:=Blk.one w (arr .u64 xs) 131
 have q0:=arr_get' (HS0.get 0 rfl) (k / 64) (by rw [hl];omega)
 rw [hy] at q0
 have HB0:=Lib.hid HS0
 clear hb hx hy HS0 hl
 go_enter Tryd.func129, Tryd.ntmps129
 go_wp2_with fail
 (try simp only [Exit.then])
 go_ret
 exact ⟨rfl,HB0.out.below⟩
theorem nless_any {xs ys:List Int} (a b:Nat) (w:World) (hx:N4 xs a) (hy:N4 ys b):Calls Tryd.prog 136 #[.agg (arr .u64 xs), .agg (arr .u64 ys)] w fun e w'=>e = .returned (.bool (decide (a < b)))∧Below w.heap.size w w':=by
 have HX:=Lib.hid hx
 have HY:=Lib.hid hy
 have HXL:=Lib.hid hx.len
 have HYL:=Lib.hid hy.len
 obtain ⟨zl,hzl⟩:∃ zs:List Int,zs=List.replicate 4 0:=⟨_,rfl⟩
 have HZzl:Hid (∀ w,(zeroValue 131).run Tryd.prog w = .ok (.agg (arr .u64 zl)) w):=Lib.hid (by intro w;rw [hzl];exact zero_lim w)
 have HLzl:Hid (zl.length=4):=Lib.hid (by rw [hzl];rfl)
 have HS0:=Lib.hid (Blk.two w (arr .u64 xs) (arr .u64 ys) 131 131)
 obtain ⟨c,hc⟩:∃ c,c=decide (a < b):=⟨_,rfl⟩
 rw [← hc]
 have HC:=Lib.hid hc
 clear hzl hx hy hc
 go_enter Tryd.func136, Tryd.ntmps136
 go_upto_region 1 with fail
 generalize ((w.alloc (.cells (arr .u64 xs) 131)).alloc (.cells (arr .u64 ys) 131))=wb at HS0 ⊢
 go_upto_region 2 with (first|((with_reducible refine aS 8 ?_);refine wpList_load_part rfl 131 _ rfl (w.heap.size) (0) _ 131 (0,0) _ (HS0.out.get 0 rfl) rfl .u64 xs (arr_part _ _) Tryd.underlying131 rfl (lim_i HXL.out) ?_)|((with_reducible refine aS 9 ?_);refine wpList_load_part rfl 131 _ rfl (w.heap.size+1) (0) _ 131 (0,0) _ (HS0.out.get 1 rfl) rfl .u64 ys (arr_part _ _) Tryd.underlying131 rfl (lim_i HYL.out) ?_)|((with_reducible show Calls _ 151 #[.agg _, .agg _] _ _);go_at_call 151; refine (lsub4 _ _ _ HX.out HY.out).mono ?_;rintro e w901 ⟨z901,rfl,h901,hb901⟩;have HZ901:=Lib.hid h901;have HL901:=Lib.hid h901.len;clear h901;have HB901:=Lib.hid (HS0.out.kept hb901);clear hb901)|((with_reducible refine aS 5 ?_);refine wpList_alloc_row rfl 131 rfl _ (HZzl.out _) ?_;have HB902:=Lib.hid (HB901.out.alloc (arr .u64 zl) 131);generalize w901.heap.size=g902 at HB902 ⊢; generalize w901.alloc (.cells (arr .u64 zl) 131)=w902 at HB902 ⊢; clear HB901)|((with_reducible refine aT 5 (x:=(Operand.tmp 11)) ?_);refine wpList_store_whole rfl 131 _ _ rfl (g902) _ _ 131 (HB902.out.get 2 rfl) rfl rfl (arr_len2 _ _ HL901.out HLzl.out) (lim_s HL901.out) (all_arr _ _) ?_;intro w903 hb903 hk903 hz903;have HB903:=Lib.hid (HB902.out.put 2 rfl hk903 hb903);clear hb903 hk903 hz903;clear HB902))
 by_cases hlt:a < b
 ·rw [brw_yes hlt]
  have hbv:(((1:Nat):Int) != 0)=true:=rfl
  have HCC:Hid (true=c):=Lib.hid (by rw [HC.out,decide_eq_true hlt])
  clear hlt
  go_wp2_with fail
  (try simp only [Exit.then])
  go_ret
  exact ⟨congrArg (fun c=>Ending.returned (.bool c)) HCC.out,HB903.out.below⟩
 ·rw [brw_no hlt]
  have hbv:(((0:Nat):Int) != 0)=false:=rfl
  have HCC:Hid (false=c):=Lib.hid (by rw [HC.out,decide_eq_false hlt])
  clear hlt
  go_wp2_with fail
  (try simp only [Exit.then])
  go_ret
  exact ⟨congrArg (fun c=>Ending.returned (.bool c)) HCC.out,HB903.out.below⟩
theorem power_any {xs es:List Int} (a v:Nat) (w:World) (hx:N4 xs a) (he:N4 es v):Calls Tryd.prog 156 #[.agg (arr .u64 xs), .agg (arr .u64 es)] w fun e w'=>∃ zs,e = .returned (.agg (arr .u64 zs))∧N4 zs (fpow a v 256)∧Below w.heap.size w w':=by
 have hn1:=n4_small 1 (by decide)
 have hbd:=fun w=>build_raw 1 w
 obtain ⟨u1,hu1⟩:∃ b:List Int,b=[(1:Int),0,0,0]:=⟨_,rfl⟩
 have hn2:N4 u1 (fpow a v 0):=by rw [hu1];exact hn1
 rw [← hu1] at hbd
 have HBD:=Lib.hid hbd
 have HU:=Lib.hid hn2
 have HUL:=Lib.hid hn2.len
 have HX:=Lib.hid hx
 have HE:=Lib.hid he
 have HXL:=Lib.hid hx.len
 have HEL:=Lib.hid he.len
 obtain ⟨zl,hzl⟩:∃ zs:List Int,zs=List.replicate 4 0:=⟨_,rfl⟩
 have HZzl:Hid (∀ w,(zeroValue 131).run Tryd.prog w = .ok (.agg (arr .u64 zl)) w):=Lib.hid (by intro w;rw [hzl];exact zero_lim w)
 have HLzl:Hid (zl.length=4):=Lib.hid (by rw [hzl];rfl)
 have HS0:=Lib.hid (Blk.three w (arr .u64 xs) (arr .u64 es) (arr .u64 zl) 131 131 131)
 clear hzl hx he hn1 hn2 hbd hu1
 go_enter Tryd.func156, Tryd.ntmps156
 go_upto_region 1 with (first|((with_reducible refine aS 4 ?_);refine wpList_alloc_row rfl 131 rfl _ (HZzl.out _) ?_))
 generalize (((w.alloc (.cells (arr .u64 xs) 131)).alloc (.cells (arr .u64 es) 131)).alloc (.cells (arr .u64 zl) 131))=wb at HS0 ⊢
 go_wp2_with (first|((with_reducible refine aS 7 ?_);refine wpList_build (by rfl) 131 _ rfl #[(0, .int .u64 1)] rfl _ (HBD.out _) ?_)|((with_reducible refine aS 5 ?_);refine wpList_alloc_row rfl 131 rfl _ (HZzl.out _) ?_;have HB2:=Lib.hid (HS0.out.alloc (arr .u64 zl) 131);generalize wb.heap.size=gx at HB2 ⊢; generalize wb.alloc (.cells (arr .u64 zl) 131)=w2 at HB2 ⊢)|((with_reducible refine aT 5 ?_);refine wpList_store_whole rfl 131 _ _ rfl (gx) _ _ 131 (HB2.out.get 3 rfl) rfl rfl (arr_len2 _ _ HUL.out HLzl.out) (lim_s HUL.out) (all_arr _ _) ?_;intro w3 hb3 hk3 hz3;have HB3:=Lib.hid (HB2.out.put 3 rfl hk3 hb3);clear hb3 hk3 hz3))
 go_loopw [6] (fun v' wr=>∃ n:Nat,n≤256∧v' = .int .i64 (255 - (n:Int))∧∃ cs:List Int,N4 cs (fpow a v n)∧Blk w wr [(w.heap.size,arr .u64 xs, 131),(w.heap.size+1,arr .u64 es, 131),(w.heap.size+1+1,arr .u64 zl, 131),(gx,arr .u64 cs, 131)]) (fun v' _=>(intOf v'+1).toNat)
 case atStart=>exact ⟨0,Nat.zero_le _,rfl,_,HU.out,HB3.out⟩
 clear HS0 HB2 HB3
 case round =>
 obtain ⟨n,hn,rfl,cs,hcs,hB⟩:=hrel
 by_cases hlt:n < 256
 ·obtain ⟨i,hi⟩:∃ i:Nat,i+n=255:=⟨255 - n,by omega⟩
  have hz:(255:Int) - (n:Int)=(i:Int):=by omega
  have hi2:i < 256:=by omega
  have hpn:=pow_next a v n
  rw [show 255 - n=i by omega] at hpn
  rw [hz]
  have HCS:=Lib.hid hcs
  have HCL:=Lib.hid hcs.len
  have HB:=Lib.hid hB
  have HI:=Lib.hid hi
  clear hcs hB hz hi
  have q9:0≤(i:Int):=by omega
  rcases (show v / 2 ^ i % 2=0∨v / 2 ^ i % 2=1 by omega) with hb|hb
  ·rw [if_neg (by omega)] at hpn
   have HPN:=Lib.hid hpn
   have HBT:=Lib.hid hb
   clear hpn hb
   go_wp2_with (first|((with_reducible refine aS 12 ?_);refine wpList_load_part rfl 131 _ rfl (gx) 0 _ 131 (0,0) _ (HB.out.get 3 rfl) rfl .u64 cs (arr_part _ _) Tryd.underlying131 rfl (lim_i HCL.out) ?_)|((with_reducible refine aS 13 ?_);refine wpList_load_part rfl 131 _ rfl (gx) 0 _ 131 (0,0) _ (HB.out.get 3 rfl) rfl .u64 cs (arr_part _ _) Tryd.underlying131 rfl (lim_i HCL.out) ?_)|((with_reducible show Calls _ _ #[.agg (arr _ cs), .agg (arr _ cs)] _ _);go_at_call 119; refine (times_any _ _ _ HCS.out HCS.out).mono ?_;rintro e w5 ⟨z5,rfl,h5,hb5⟩;have HZ5:=Lib.hid h5;have HL5:=Lib.hid h5.len;have HB5:=Lib.hid (HB.out.kept hb5);clear h5 hb5)|((with_reducible refine aT 5 ?_);refine wpList_store_whole rfl 131 _ _ rfl (gx) _ _ 131 (HB5.out.get 3 rfl) rfl rfl (arr_len2 _ _ HL5.out HCL.out) (lim_s HL5.out) (all_arr _ _) ?_;intro w6 hb6 hk6 hz6;have HB6:=Lib.hid (HB5.out.put 3 rfl hk6 hb6);clear hb6 hk6 hz6)|((with_reducible refine aS 15 ?_);refine wpList_load_part rfl 131 _ rfl (w.heap.size+1) 0 _ 131 (0,0) _ (HB6.out.get 1 rfl) rfl .u64 es (arr_part _ _) Tryd.underlying131 rfl (lim_i HEL.out) ?_)|((with_reducible show Calls _ 129 _ _ _);go_at_call 129; refine (bit_any _ i _ _ HE.out hi2 HBT.out).mono ?_;rintro e w7 ⟨rfl,hb7⟩;have HB7:=Lib.hid (HB6.out.kept hb7);clear hb7))
   go_roundw
   case rel =>
    have e:=HI.out
    exact ⟨n+1,by omega,by congr 1;omega,_,by rw [HPN.out];exact HZ5.out,HB7.out⟩
   case measure=>simp [intOf]
  ·rw [if_pos hb] at hpn
   have HPN:=Lib.hid hpn
   have HBT:=Lib.hid hb
   clear hpn hb
   go_wp2_with (first|((with_reducible refine aS 12 ?_);refine wpList_load_part rfl 131 _ rfl (gx) 0 _ 131 (0,0) _ (HB.out.get 3 rfl) rfl .u64 cs (arr_part _ _) Tryd.underlying131 rfl (lim_i HCL.out) ?_)|((with_reducible refine aS 13 ?_);refine wpList_load_part rfl 131 _ rfl (gx) 0 _ 131 (0,0) _ (HB.out.get 3 rfl) rfl .u64 cs (arr_part _ _) Tryd.underlying131 rfl (lim_i HCL.out) ?_)|((with_reducible show Calls _ _ #[.agg (arr _ cs), .agg (arr _ cs)] _ _);go_at_call 119; refine (times_any _ _ _ HCS.out HCS.out).mono ?_;rintro e w5 ⟨z5,rfl,h5,hb5⟩;have HZ5:=Lib.hid h5;have HL5:=Lib.hid h5.len;have HB5:=Lib.hid (HB.out.kept hb5);clear h5 hb5)|(with_reducible refine aT 5 (x:=(Operand.tmp 14)) ?_);((with_reducible refine aT 5 ?_);refine wpList_store_whole rfl 131 _ _ rfl (gx) _ _ 131 (HB5.out.get 3 rfl) rfl rfl (arr_len2 _ _ HL5.out HCL.out) (lim_s HL5.out) (all_arr _ _) ?_;intro w6 hb6 hk6 hz6;have HB6:=Lib.hid (HB5.out.put 3 rfl hk6 hb6);clear hb6 hk6 hz6)|((with_reducible refine aS 15 ?_);refine wpList_load_part rfl 131 _ rfl (w.heap.size+1) 0 _ 131 (0,0) _ (HB6.out.get 1 rfl) rfl .u64 es (arr_part _ _) Tryd.underlying131 rfl (lim_i HEL.out) ?_)|((with_reducible show Calls _ 129 _ _ _);go_at_call 129; refine (bit_any _ i _ _ HE.out hi2 HBT.out).mono ?_;rintro e w7 ⟨rfl,hb7⟩;have HB7:=Lib.hid (HB6.out.kept hb7);clear hb7)|((with_reducible refine aS 19 ?_);refine wpList_load_part rfl 131 _ rfl (gx) 0 _ 131 (0,0) _ (HB7.out.get 3 rfl) rfl .u64 z5 (arr_part _ _) Tryd.underlying131 rfl (lim_i HL5.out) ?_)|((with_reducible refine aS 20 ?_);refine wpList_load_part rfl 131 _ rfl (w.heap.size) 0 _ 131 (0,0) _ (HB7.out.get 0 rfl) rfl .u64 xs (arr_part _ _) Tryd.underlying131 rfl (lim_i HXL.out) ?_)|((with_reducible show Calls _ _ #[.agg (arr _ z5), .agg (arr _ xs)] _ _);go_at_call 119; refine (times_any _ _ _ HZ5.out HX.out).mono ?_;rintro e w8 ⟨z8,rfl,h8,hb8⟩;have HZ8:=Lib.hid h8;have HL8:=Lib.hid h8.len;have HB8:=Lib.hid (HB7.out.kept hb8);clear h8 hb8)|(with_reducible refine aT 5 (x:=(Operand.tmp 21)) ?_);((with_reducible refine aT 5 ?_);refine wpList_store_whole rfl 131 _ _ rfl (gx) _ _ 131 (HB8.out.get 3 rfl) rfl rfl (arr_len2 _ _ HL8.out HL5.out) (lim_s HL8.out) (all_arr _ _) ?_;intro w9 hb9 hk9 hz9;have HB9:=Lib.hid (HB8.out.put 3 rfl hk9 hb9);clear hb9 hk9 hz9))
   go_roundw
   case rel =>
    have e:=HI.out
    exact ⟨n+1,by omega,by congr 1;omega,_,by rw [HPN.out];exact HZ8.out,HB9.out⟩
   case measure=>simp [intOf]
 ·obtain rfl:n=256:=by omega
  have hz:(255:Int) - ((256:Nat):Int) = -1:=by omega
  rw [hz]
  have HCS:=Lib.hid hcs
  have HCL:=Lib.hid hcs.len
  have HB:=Lib.hid hB
  clear hcs hB hz
  go_wp2_with (first|((with_reducible refine aS 22 ?_);refine wpList_load_part rfl 131 _ rfl (gx) 0 _ 131 (0,0) _ (HB.out.get 3 rfl) rfl .u64 cs (arr_part _ _) Tryd.underlying131 rfl (lim_i HCL.out) ?_)|((with_reducible refine aT 4 ?_);refine wpList_store_whole rfl 131 _ _ rfl (w.heap.size+1+1) _ _ 131 (HB.out.get 2 rfl) rfl rfl (arr_len2 _ _ HCL.out HLzl.out) (lim_s HCL.out) (all_arr _ _) ?_;intro w8 hb8 hk8 hz8;have HB8:=Lib.hid (HB.out.put 2 rfl hk8 hb8);clear hb8 hk8 hz8))
  (try simp only [Exit.inBlock,Exit.then])
  refine bodyPost_ret (results_cell_row rfl _ _ (w.heap.size+1+1) 131 _ (0,0) _ rfl (HB8.out.get 2 rfl) Tryd.underlying131 rfl (lim_s HCL.out)) rfl ?_
  exact ⟨_,rfl,HCS.out,HB8.out.below⟩
theorem p_less2:(p+18446744073709551616 ^ 4 - 2) % 18446744073709551616 ^ 4=p - 2:=by decide +kernel
theorem inverse_any {xs:List Int} (a:Nat) (w:World) (hx:N4 xs a):Calls Tryd.prog 124 #[.agg (arr .u64 xs)] w fun e w'=>∃ zs,e = .returned (.agg (arr .u64 zs))∧N4 zs (finv a)∧Below w.heap.size w w':=by
 have hn1:=n4_small 2 (by decide)
 have hbd:=fun w=>build_raw 2 w
 obtain ⟨u1,hu1⟩:∃ b:List Int,b=[(2:Int),0,0,0]:=⟨_,rfl⟩
 have hn2:N4 u1 2:=by rw [hu1];exact hn1
 rw [← hu1] at hbd
 have HBD:=Lib.hid hbd
 have HU:=Lib.hid hn2
 have HUL:=Lib.hid hn2.len
 have HX:=Lib.hid hx
 have HXL:=Lib.hid hx.len
 have HP2:=Lib.hid p_less2
 obtain ⟨zl,hzl⟩:∃ zs:List Int,zs=List.replicate 4 0:=⟨_,rfl⟩
 have HZzl:Hid (∀ w,(zeroValue 131).run Tryd.prog w = .ok (.agg (arr .u64 zl)) w):=Lib.hid (by intro w;rw [hzl];exact zero_lim w)
 have HLzl:Hid (zl.length=4):=Lib.hid (by rw [hzl];rfl)
 have HS0:=Lib.hid (Blk.two w (arr .u64 xs) (arr .u64 zl) 131 131)
 clear hzl hx hn1 hn2 hbd hu1
 go_enter Tryd.func124, Tryd.ntmps124
 go_upto_region 1 with (first|((with_reducible refine aS 2 ?_);refine wpList_alloc_row rfl 131 rfl _ (HZzl.out _) ?_))
 generalize ((w.alloc (.cells (arr .u64 xs) 131)).alloc (.cells (arr .u64 zl) 131))=wb at HS0 ⊢
 go_upto_region 2 with (first|((with_reducible show Calls _ 152 _ _ _);go_at_call 152; refine (prime_any _).mono ?_;rintro e w1 ⟨z1,rfl,h1,hb1⟩;have HZ1:=Lib.hid h1;have HL1:=Lib.hid h1.len;have HB1:=Lib.hid (HS0.out.kept hb1);clear h1 hb1)|((with_reducible refine aS 7 ?_);refine wpList_build (by rfl) 131 _ rfl #[(0, .int .u64 2)] rfl _ (HBD.out _) ?_)|((with_reducible show Calls _ 151 _ _ _);go_at_call 151; refine (lsub4 _ _ _ HZ1.out HU.out).mono ?_;rintro e w2 ⟨z2,rfl,h2,hb2⟩;have HZ2:=Lib.hid (h2.cast HP2.out);have HL2:=Lib.hid h2.len;have HB2:=Lib.hid (HB1.out.kept hb2);clear h2 hb2)|((with_reducible refine aS 3 ?_);refine wpList_alloc_row rfl 131 rfl _ (HZzl.out _) ?_;have HB3:=Lib.hid (HB2.out.alloc (arr .u64 zl) 131);generalize w2.heap.size=gx at HB3 ⊢; generalize w2.alloc (.cells (arr .u64 zl) 131)=w3 at HB3 ⊢)|((with_reducible refine aT 3 ?_);refine wpList_store_whole rfl 131 _ _ rfl (gx) _ _ 131 (HB3.out.get 2 rfl) rfl rfl (arr_len2 _ _ HL2.out HLzl.out) (lim_s HL2.out) (all_arr _ _) ?_;intro w4 hb4 hk4 hz4;have HB4:=Lib.hid (HB3.out.put 2 rfl hk4 hb4);clear hb4 hk4 hz4))
 go_wp2_with (first|((with_reducible refine aS 11 ?_);refine wpList_load_part rfl 131 _ rfl (w.heap.size) 0 _ 131 (0,0) _ (HB4.out.get 0 rfl) rfl .u64 xs (arr_part _ _) Tryd.underlying131 rfl (lim_i HXL.out) ?_)|((with_reducible refine aS 12 ?_);refine wpList_load_part rfl 131 _ rfl (gx) 0 _ 131 (0,0) _ (HB4.out.get 2 rfl) rfl .u64 z2 (arr_part _ _) Tryd.underlying131 rfl (lim_i HL2.out) ?_)|((with_reducible show Calls _ 156 _ _ _);go_at_call 156; refine (power_any _ _ _ HX.out HZ2.out).mono ?_;rintro e w5 ⟨z5,rfl,h5,hb5⟩;have HZ5:=Lib.hid h5;have HL5:=Lib.hid h5.len;have HB5:=Lib.hid (HB4.out.kept hb5);clear h5 hb5)|((with_reducible refine aT 2 ?_);refine wpList_store_whole rfl 131 _ _ rfl (w.heap.size+1) _ _ 131 (HB5.out.get 1 rfl) rfl rfl (arr_len2 _ _ HL5.out HLzl.out) (lim_s HL5.out) (all_arr _ _) ?_;intro w6 hb6 hk6 hz6;have HB6:=Lib.hid (HB5.out.put 1 rfl hk6 hb6);clear hb6 hk6 hz6))
 (try simp only [Exit.then])
 refine bodyPost_ret (results_cell_row rfl _ _ (w.heap.size+1) 131 _ (0,0) _ rfl (HB6.out.get 1 rfl) Tryd.underlying131 rfl (lim_s HL5.out)) rfl ?_
 exact ⟨_,rfl,HZ5.out,HB6.out.below⟩
end Go.Proofs.YtodnkallpfkdiaaDoor.Fp
namespace Go.Proofs.YtodnkallpfkdiaaDoor.Fp
open Go.RowKit Lm
theorem u64_nat (x:Nat) (h:x < 18446744073709551616):(BitVec.ofInt 64 (x:Int)).toNat=x:=by rw [BitVec.ofInt_natCast,BitVec.toNat_ofNat];exact Nat.mod_eq_of_lt h
theorem wrap_nat (x:Nat) (h:x < 18446744073709551616):IntKind.u64.wrap (x:Int)=(x:Int):=by rw [IntKind.wrap_u64];omega
theorem xor_nat (x y:Nat) (hx:x < 18446744073709551616) (hy:y < 18446744073709551616):bits .xor .u64 (x:Int) (y:Int)=((x ^^^ y:Nat):Int)∧x ^^^ y < 18446744073709551616:=by
 have h:=Nat.xor_lt_two_pow (n:=64) hx hy
 refine ⟨?_,h⟩
 show IntKind.u64.wrap ((BitVec.ofInt 64 (x:Int) ^^^ BitVec.ofInt 64 (y:Int)).toNat:Int)=_
 rw [BitVec.toNat_xor,u64_nat x hx,u64_nat y hy,wrap_nat _ h]
theorem and_zero (y:Int):bits .and .u64 0 y=0:=by
 show IntKind.u64.wrap ((BitVec.ofInt 64 (0:Int) &&& BitVec.ofInt 64 y).toNat:Int)=_
 rw [show BitVec.ofInt 64 (0:Int)=0#64 from rfl,BitVec.zero_and]
 rfl
theorem and_ones (y:Nat) (hy:y < 18446744073709551616):bits .and .u64 18446744073709551615 (y:Int)=(y:Int):=by
 show IntKind.u64.wrap ((BitVec.ofInt 64 (18446744073709551615:Int) &&& BitVec.ofInt 64 (y:Int)).toNat:Int)=_
 rw [show BitVec.ofInt 64 (18446744073709551615:Int)=BitVec.allOnes 64 by decide,BitVec.allOnes_and,u64_nat y hy,wrap_nat y hy]
end Go.Proofs.YtodnkallpfkdiaaDoor.Fp
namespace Go.Proofs.YtodnkallpfkdiaaDoor.Sl
open Go.RowKit Lm Fp Sc
theorem zero_num (w:World):(zeroValue 23).run Tryd.prog w = .ok (.agg (arr .u8 (List.replicate 32 0))) w:=by kernel_rfl
theorem size_num:(Tryd.prog.info? 23).map (·.size)=some 32:=by kernel_rfl
theorem num_s {xs:List Int} (h:xs.length=32):(Tryd.prog.info? 23).map (·.size)=some (arr .u8 xs).size:=by rw [arr_size,h];exact size_num
theorem num_i {xs:List Int} (h:xs.length=32):(Tryd.prog.info? 23).map (·.size)=some xs.length:=by rw [h];exact size_num
/-- The bytes ks are the number a. -/
def K32 (ks:List Int) (a:Nat):Prop:=ks=nar (dig 256 32 a)∧a < 256 ^ 32
theorem K32.len {ks:List Int} {a:Nat} (h:K32 ks a):ks.length=32:=by rw [h.1,nar_len,dig_len]
theorem K32.cast {ks:List Int} {a b:Nat} (h:K32 ks a) (e:a=b):K32 ks b:=e▸h
theorem pow_same:256 ^ 32=18446744073709551616 ^ 4:=by decide
theorem of4 {ks:List Int} (a:Nat) (w:World) (h:K32 ks a):Calls Tryd.prog 117 #[.agg (arr .u8 ks)] w fun e w'=>∃ zs,e = .returned (.agg (arr .u64 zs))∧N4 zs a∧Below w.heap.size w w':=by
 obtain ⟨rfl,h1⟩:=h
 refine (of_any _ w (dig_len _ _ _) (dig_lt _ (by decide) _ _)).mono ?_
 rintro e w' ⟨rfl,hb⟩
 rw [val_dig,Nat.mod_eq_of_lt h1]
 exact ⟨_,rfl,n4_of a (by rw [← pow_same];exact h1),hb⟩
theorem num4 {xs:List Int} (a:Nat) (w:World) (h:N4 xs a):Calls Tryd.prog 130 #[.agg (arr .u64 xs)] w fun e w'=>∃ zs,e = .returned (.agg (arr .u8 zs))∧K32 zs a∧Below w.heap.size w w':=by
 obtain ⟨rfl,h1⟩:=h
 refine (num_any _ w (dig_len _ _ _) (dig_lt _ (by decide) _ _)).mono ?_
 rintro e w' ⟨rfl,hb⟩
 rw [vd a h1]
 exact ⟨_,rfl,⟨rfl,by rw [pow_same];exact h1⟩,hb⟩
end Go.Proofs.YtodnkallpfkdiaaDoor.Sl
namespace Go.Proofs.YtodnkallpfkdiaaDoor.Sl
open Go.RowKit Lm Fp
theorem sand127:∀ t:Nat,t < 256→bits .and .u8 (t:Int) 127=((t % 128:Nat):Int):=by decide +kernel
theorem build_no (w:World):(Instr.build 131 #[]).run Tryd.prog w = .ok (.agg (arr .u64 [0,0,0,0])) w:=by kernel_rfl
theorem K32.inj {xs ys:List Int} {a b:Nat} (hx:K32 xs a) (hy:K32 ys b):(xs == ys)=decide (a=b):=by
 obtain ⟨rfl,h1⟩:=hx
 obtain ⟨rfl,h2⟩:=hy
 by_cases e:a=b
 ·subst e;simp
 ·rw [decide_eq_false e,beq_eq_false_iff_ne]
  intro h
  have h3:dig 256 32 a=dig 256 32 b:=by
   have:=congrArg (List.map Int.toNat) h
   have e:∀ l:List Nat,(nar l).map Int.toNat=l:=fun l=>by rw [nar,List.map_map];exact List.map_id l
   rwa [e,e] at this
  have h4:=congrArg (val 256) h3
  rw [val_dig,val_dig,Nat.mod_eq_of_lt h1,Nat.mod_eq_of_lt h2] at h4
  exact e h4
theorem k32_zero:K32 (List.replicate 32 0) 0:=⟨by decide +kernel,by decide⟩
theorem build_nil (w:World):(Instr.build 23 #[]).run Tryd.prog w = .ok (.agg (arr .u8 (List.replicate 32 0))) w:=by kernel_rfl
end Go.Proofs.YtodnkallpfkdiaaDoor.Sl
namespace Go.Proofs.YtodnkallpfkdiaaDoor.Cu
open Go.RowKit Lm Fp Sc
/-- The number of bytes, the lowest first. -/
def hnum (xs:List Int):Nat:=val 256 (xs.map Int.toNat)
def n32 (a:Nat):List Int:=nar (dig 256 32 a)
theorem n32_len (a:Nat):(n32 a).length=32:=(nar_len _).trans (dig_len _ _ _)
theorem n32_bytes (a:Nat):bytes (n32 a):=by
 intro x hx
 obtain ⟨y,hy,rfl⟩:=List.mem_map.1 hx
 have:=dig_lt 256 (by decide) 32 a y hy
 refine ⟨Int.natCast_nonneg y,?_⟩
 show (y:Int)≤255
 omega
theorem toNat_nar (ns:List Nat):(nar ns).map Int.toNat=ns:=by rw [nar,List.map_map];exact List.map_id ns
theorem nar_toNat {xs:List Int} (h:bytes xs):nar (xs.map Int.toNat)=xs:=nar_of xs (fun x hx=>(h x hx).1)
theorem toNat_lt {xs:List Int} (h:bytes xs):∀ x∈xs.map Int.toNat,x < 256:=by
 intro x hx
 obtain ⟨y,hy,rfl⟩:=List.mem_map.1 hx
 have:=h y hy
 omega
theorem dig_hnum {xs:List Int} (h:bytes xs):nar (dig 256 xs.length (hnum xs))=xs:=by
 have h1:=dig_val 256 (by decide) (xs.map Int.toNat) (toNat_lt h)
 rw [List.length_map] at h1
 rw [hnum,h1,nar_toNat h]
theorem hnum_lt {xs:List Int} (h:bytes xs):hnum xs < 256 ^ xs.length:=by
 have:=val_lt 256 (xs.map Int.toNat) (toNat_lt h)
 rwa [List.length_map] at this
theorem hnum_n32 {a:Nat} (h:a < 256 ^ 32):hnum (n32 a)=a:=by rw [hnum,n32,toNat_nar,val_dig,Nat.mod_eq_of_lt h]
theorem n32_hnum {xs:List Int} (h:bytes xs) (hl:xs.length=32):n32 (hnum xs)=xs:=by rw [n32,← hl];exact dig_hnum h
theorem bytes_take {xs:List Int} (h:bytes xs) (n:Nat):bytes (xs.take n):=fun x hx=>h x (List.mem_of_mem_take hx)
theorem bytes_drop {xs:List Int} (h:bytes xs) (n:Nat):bytes (xs.drop n):=fun x hx=>h x (List.mem_of_mem_drop hx)
theorem bytes_app {xs ys:List Int} (h:bytes xs) (k:bytes ys):bytes (xs ++ ys):=fun x hx=>(List.mem_append.1 hx).elim (h x) (k x)
end Go.Proofs.YtodnkallpfkdiaaDoor.Cu
namespace Go.Proofs.YtodnkallpfkdiaaDoor.Sl
open Go.RowKit Lm Fp Cu Sc
theorem zero_sig (w:World):(zeroValue 26).run Tryd.prog w = .ok (.agg (arr .u8 (List.replicate 64 0))) w:=by kernel_rfl
theorem size_sig:(Tryd.prog.info? 26).map (·.size)=some 64:=by kernel_rfl
theorem sig_s {xs:List Int} (h:xs.length=64):(Tryd.prog.info? 26).map (·.size)=some (arr .u8 xs).size:=by rw [arr_size,h];exact size_sig
theorem sig_i {xs:List Int} (h:xs.length=64):(Tryd.prog.info? 26).map (·.size)=some xs.length:=by rw [h];exact size_sig
theorem src_off {w:World} {g:Nat} {xs:List Int} {t:TypeId} {fr:Nat×Nat} (h:w.heap[g]? = some (.cells (arr .u8 xs) t fr)) (o m:Nat) (hm:o+m≤xs.length):Src w (some ⟨g,o,none⟩) m ((xs.drop o).take m):=by
 refine ⟨by rw [List.length_take,List.length_drop];omega,fun i hi=>⟨_,rfl,?_⟩⟩
 rw [Addr.add_lit,blk_arr' h (o+i) (by omega)]
 have e:((xs.drop o).take m).getD i 0=xs.getD (o+i) 0:=by simp [List.getD,List.getElem?_take,hi,List.getElem?_drop]
 rw [e]
theorem src_all {w:World} {g:Nat} {xs:List Int} {t:TypeId} {fr:Nat×Nat} (h:w.heap[g]? = some (.cells (arr .u8 xs) t fr)) (m:Nat) (hm:xs.length=m):Src w (some ⟨g,0,none⟩) m xs:=by
 have:=src_off h 0 m (by omega)
 rwa [List.drop_zero,List.take_of_length_le (by omega)] at this
theorem csrcL_one {w:World} {si:Option Addr} {n ci:Nat} {l:List Int} (h:Src w si n l) (hc:n≤ci) :
  SrcL (w.alloc (.cells #[.slice si n ci] 24)) (some ⟨w.heap.size,0,none⟩) 1 [l]:=by
 have hl:=h.len
 subst hl
 refine ⟨rfl,fun i hi=>?_⟩
 obtain rfl:i=0:=by omega
 refine ⟨_,si,ci,rfl,?_,hc,h.below ((Below.refl _ w).alloc (Nat.le_refl _) _)⟩
 rw [show (⟨w.heap.size,0,none⟩:Addr).add 0=⟨w.heap.size,0,none⟩ from rfl,cell_blk (blk_new w _)]
 rfl
theorem below_new {w w':World} {o:Obj} (h:Below (w.alloc o).heap.size (w.alloc o) w'):Below w.heap.size w w':=by
 have b1:Below w.heap.size w (w.alloc o):=(Below.refl _ w).alloc (Nat.le_refl _) o
 exact b1.trans (h.mono b1.size)
theorem Blk.add {w wr w':World} {l:List (Nat×Array Value×TypeId)} (h:Blk w wr l) (b:Below wr.heap.size wr w') {g:Nat} {c:Array Value} {t:TypeId} (hg:w'.heap[g]? = some (.cells c t (0,0))) (hle:wr.heap.size≤g):Blk w w' (l ++ [(g,c,t)]):=by
 have h1:=h.kept b
 have hlt:∀ (i g':Nat) (c':Array Value) (t':TypeId),l[i]? = some (g',c',t')→g' < wr.heap.size:=fun i g' c' t' hi=>h.lt i hi
 refine ⟨fun i g' c' t' hi=>?_,fun i j g' c1 t1 c2 t2 hi hj=>?_,h1.below⟩
 ·rcases Nat.lt_or_ge i l.length with hl|hl
  ·rw [List.getElem?_append_left hl] at hi
   exact h1.mem i g' c' t' hi
  ·rw [List.getElem?_append_right hl] at hi
   obtain ⟨hh0,e⟩:=List.getElem?_eq_some_iff.1 hi
   have e2:(g,c,t)=(g',c',t'):=by rw [← e];simp
   cases e2
   exact ⟨hg,Nat.le_trans h.below.size hle⟩
 ·have key:∀ (i g':Nat) (c':Array Value) (t':TypeId),(l ++ [(g,c,t)])[i]? = some (g',c',t')→(i < l.length∧l[i]? = some (g',c',t'))∨(i=l.length∧g'=g):=by
   intro i g' c' t' hi
   rcases Nat.lt_or_ge i l.length with hl|hl
   ·rw [List.getElem?_append_left hl] at hi
    exact .inl ⟨hl,hi⟩
   ·rw [List.getElem?_append_right hl] at hi
    obtain ⟨hh,e⟩:=List.getElem?_eq_some_iff.1 hi
    have e2:(g,c,t)=(g',c',t'):=by rw [← e];simp
    cases e2
    simp at hh
    exact .inr ⟨by omega,rfl⟩
  rcases key i g' c1 t1 hi with ⟨a1,a2⟩|⟨a1,a2⟩ <;> rcases key j g' c2 t2 hj with ⟨b1,b2⟩|⟨b1,b2⟩
  ·exact h.inj i j _ _ _ _ _ a2 b2
  ·have:=hlt i g' c1 t1 a2;omega
  ·have:=hlt j g' c2 t2 b2;omega
  ·omega
theorem part_off (xs:List Int) (o m:Nat) (h:o+m≤xs.length):((arr .u8 xs).toList.drop o).take ((xs.drop o).take m).length=((xs.drop o).take m).map (Value.int .u8):=by
 show ((xs.map (Value.int .u8)).drop o).take _=_
 rw [List.length_take,List.length_drop,← List.map_drop,List.map_take]
 congr 1
 omega
theorem src_two {w:World} {g:Nat} {t:TypeId} {fr:Nat×Nat} {s1 s2:Option Addr} {n1 n2 c1 c2:Nat} {x1 x2:List Int} (h:w.heap[g]? = some (.cells #[.slice s1 n1 c1, .slice s2 n2 c2] t fr)) (h1:Src w s1 n1 x1) (h2:Src w s2 n2 x2) (l1:n1≤c1) (l2:n2≤c2) :
  SrcL w (some ⟨g,0,none⟩) 2 [x1,x2]:=by
 have e1:=h1.len
 have e2:=h2.len
 subst e1 e2
 refine ⟨rfl,fun i hi=>?_⟩
 match i,hi with
 | 0,_=>exact ⟨_,s1,c1,rfl,by rw [show (⟨g,0,none⟩:Addr).add 0=⟨g,0,none⟩ from rfl,cell_blk h];rfl,l1,h1⟩
 | 1,_=>exact ⟨_,s2,c2,rfl,by rw [show (⟨g,0,none⟩:Addr).add 1=⟨g,1,none⟩ from rfl,cell_blk h];rfl,l2,h2⟩
theorem part_take (xs:List Int) (n:Nat):((arr .u8 xs).toList.drop 0).take (xs.take n).length=(xs.take n).map (Value.int .u8):=by
 show ((xs.map (Value.int .u8)).drop 0).take _=_
 rw [List.drop_zero,List.length_take,← List.map_take]
 congr 1
 apply List.ext_getElem?
 intro i
 simp only [List.getElem?_take]
 by_cases h1:i < xs.length
 ·by_cases h2:i < n
  ·rw [if_pos (by omega),if_pos h2]
  ·rw [if_neg (by omega),if_neg h2]
 ·simp [List.getElem?_eq_none (Nat.not_lt.1 h1)]
end Go.Proofs.YtodnkallpfkdiaaDoor.Sl
namespace Go.Proofs.YtodnkallpfkdiaaDoor
open Go.RowKit
theorem SrcL.vals {w:World} {sa:Option Addr} {n:Nat} {L:List (List Int)} (h:SrcL w sa n L):∃ vs:List Value,vs.length=n∧(∀ b,sa=some b→∀ j u,vs[j]? = some u→w.cell? (b.add j)=some u)∧(∀ u∈vs,u.oneCell'=true) ∧
  ∀ i,i < n→∃ si ci,vs[i]? = some (.slice si (L.getD i []).length ci)∧(L.getD i []).length≤ci∧Src w si (L.getD i []).length (L.getD i []):=by
 cases sa with
 | none =>
  have h0:n=0:=by
   rcases Nat.eq_zero_or_pos n with h0|h0
   ·exact h0
   ·obtain ⟨_,_,_,he,_⟩:=h.cell 0 h0
    cases he
  subst h0
  refine ⟨[],rfl,?_,?_,?_⟩
  ·intro b hb;cases hb
  ·intro u hu;cases hu
  ·intro i hi;exact absurd hi (Nat.not_lt_zero _)
 | some b =>
  have hx:∀ i,i < n→∃ si ci,w.cell? (b.add i)=some (.slice si (L.getD i []).length ci)∧(L.getD i []).length≤ci∧Src w si (L.getD i []).length (L.getD i []):=by
   intro i hi
   obtain ⟨a,si,ci,e,h1,h2,h3⟩:=h.cell i hi
   cases e
   exact ⟨si,ci,h1,h2,h3⟩
  refine ⟨(List.range n).map fun i=>(w.cell? (b.add i)).getD undef,by simp,?_,?_,?_⟩
  ·rintro b' hb' j u hj
   cases hb'
   rw [List.getElem?_map,Option.map_eq_some_iff] at hj
   obtain ⟨k,hk,rfl⟩:=hj
   obtain ⟨hk1,hk2⟩:=List.getElem?_eq_some_iff.1 hk
   rw [List.length_range] at hk1
   rw [List.getElem_range] at hk2
   subst hk2
   obtain ⟨si,ci,h1,_⟩:=hx j hk1
   rw [h1];rfl
  ·intro u hu
   obtain ⟨i,hi,rfl⟩:=List.mem_map.1 hu
   obtain ⟨si,ci,h1,_⟩:=hx i (List.mem_range.1 hi)
   rw [h1];rfl
  ·intro i hi
   obtain ⟨si,ci,h1,h2,h3⟩:=hx i hi
   exact ⟨si,ci,by rw [List.getElem?_map,List.getElem?_range hi];simp [h1],h2,h3⟩
theorem SrcL.of_vals {w:World} {ad:Addr} {n:Nat} {L:List (List Int)} (hl:L.length=n) (vs:List Value) (hc:∀ j u,vs[j]? = some u→w.cell? (ad.add j)=some u)
  (hv:∀ i,i < n→∃ si ci,vs[i]? = some (.slice si (L.getD i []).length ci)∧(L.getD i []).length≤ci∧Src w si (L.getD i []).length (L.getD i [])):SrcL w (some ad) n L :=
 ⟨hl,fun i hi=>by
  obtain ⟨si,ci,h1,h2,h3⟩:=hv i hi
  exact ⟨ad,si,ci,rfl,hc i _ h1,h2,h3⟩⟩
theorem info_tB1:(Tryd.prog.info? 24).map (fun i=>(i.zero,i.size,i.bytes))=some (some (.slice none 0 0),1,24):=by kernel_rfl
theorem getD_app (A B:List (List Int)) (i:Nat):(A ++ B).getD i []=if i < A.length then A.getD i [] else B.getD (i - A.length) []:=by
 by_cases h:i < A.length
 ·rw [if_pos h];simp [List.getD,List.getElem?_append_left h]
 ·rw [if_neg h];simp [List.getD,List.getElem?_append_right (Nat.not_lt.1 h)]
theorem wpList_appLL {w:World} {ops:Array Oper} {rest:List Oper} {o:Oper} {a:Act} {Q:Exit→Act→World→Prop} (hg:o.guard=none) (s x:Operand)
  (hop:o.op=Op.call { callee:=Callee.builtin Builtin.append,args := #[s,x],argTypes := #[69, 69] }) (g oa na:Nat) (LA:List (List Int)) (sb:Option Addr) (nb cb:Nat) (LB:List (List Int))
  (hs:a.eval s = .slice (some ⟨g,oa,none⟩) na na) (hx:a.eval x = .slice sb nb cb) (hA:SrcL w (some ⟨g,oa,none⟩) na LA) (hB:SrcL w sb nb LB) (hn:na+nb≤1099511627776)
  (h:∀ ad' cap w',SrcL w' (some ad') (na+nb) (LA ++ LB)→Below w.heap.size w w'→wpList Tryd.prog ops Q rest (a.put o.dst (.slice (some ad') (na+nb) cap)) w'):wpList Tryd.prog ops Q (o :: rest) a w:=by
 obtain ⟨i0,hi,hz⟩:=Option.map_eq_some_iff.1 info_tB1
 simp only [Prod.mk.injEq] at hz
 obtain ⟨z0,z1,z2⟩:=hz
 have hll:(LA ++ LB).length=na+nb:=by rw [List.length_append,hA.len,hB.len]
 rcases Nat.eq_zero_or_pos nb with h0|hpos
 ·subst h0
  have hLB:LB=[]:=List.eq_nil_of_length_eq_zero hB.len
  subst hLB
  have hrun:(Builtin.append_ #[69, 69] o.type #[.slice (some ⟨g,oa,none⟩) na na, .slice sb 0 cb]).run Tryd.prog w = .ok (.slice (some ⟨g,oa,none⟩) (na+0) na) w:=by
   cases sb with
   | none=>simp [Builtin.append_,run_underlying Tryd.underlying69, sizeOf,typeInfo,hi,Builtin.lenOf,Builtin.firstCells,storeCells]
   | some b=>exact run_append_room_cells (P := Tryd.prog) w 69 o.type 24 i0 Tryd.underlying69 hi g oa na na b 0 cb [] (by simp) (by simp) (by simp) (by simp) (by simp) (by simp)
  refine wpList_plain hg fun _ hK=>?_
  unfold Oper.wp execOp
  simp only [hop,resolve,invoke,builtin,Sem.run_bind,Sem.run_pure,Result.andThen_ok,List.map_toArray,List.map_cons,List.map_nil,hs,hx,hrun]
  exact hK _ _ (h _ _ _ (by simpa using hA) (Below.refl _ w))
 ·obtain ⟨va,a1,a2,a3,a4⟩:=hA.vals
  obtain ⟨vb,b1,b2,b3,b4⟩:=hB.vals
  cases sb with
  | none =>
   obtain ⟨_,_,_,he,_⟩:=hB.cell 0 hpos
   cases he
  | some b =>
  refine wpList_append_grows w hg s x _ hop 24 i0 (.slice none 0 0) 1 24 Tryd.underlying69 hi z0 z1 z2 rfl (by decide) (some ⟨g,oa,none⟩) na na va hs (fun e=>by cases e) (by simp [a1]) a2 b nb cb vb hx (by simp [b1]) (b2 b rfl) b3 (by omega) (by unfold maxLen;omega) (by omega) ?_
  intro v' w' hown hgr
  have hb:Below w.heap.size w w':=⟨hgr.os,hgr.tape,hgr.output,hgr.size,fun k hk=>hgr.block k hk (by simp)⟩
  rcases hown.2 with ⟨-, h0⟩|⟨g',cap,cur,rfl, -, -⟩
  ·exact absurd h0 (by omega)
  ·refine h _ cap w' (SrcL.of_vals hll (va ++ vb) (fun j u hj=>World.ownsRow.cells hown (g:=g') rfl j u hj) (fun i hi'=>?_)) hb
   rw [getD_app,hA.len]
   by_cases hlt:i < na
   ·obtain ⟨si,ci,h1,h2,h3⟩:=a4 i hlt
    rw [if_pos hlt]
    exact ⟨si,ci,by rw [List.getElem?_append_left (by rw [a1];exact hlt)];exact h1,h2,h3.below hb⟩
   ·obtain ⟨si,ci,h1,h2,h3⟩:=b4 (i - na) (by omega)
    rw [if_neg hlt]
    exact ⟨si,ci,by rw [List.getElem?_append_right (by rw [a1];omega),a1];exact h1,h2,h3.below hb⟩
end Go.Proofs.YtodnkallpfkdiaaDoor
