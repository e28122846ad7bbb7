/- Rows made place by place, and the steps of limb.Num and limb.Mul, in plain words. Reckoning modulo the order of the base point, in plain words. The curve in plain words: What a poi. Condition: as each theorem says. -/

import Derived.Test.YthdgbgleklkaiaaDoorQa02
set_option linter.unusedSimpArgs false
set_option linter.unusedVariables false
namespace Go.Proofs.YthdgbgleklkaiaaDoor.Lm
open Go.RowKit
def upto (f:Nat→Nat) (n j:Nat):List Nat:=(List.range n).map fun i=>if i < j then f i else 0
theorem yu (f:Nat→Nat) (n j:Nat):(upto f n j).length=n:=by simp [upto]
theorem BR (f:Nat→Nat) (n:Nat):upto f n 0=List.replicate n 0:=by
 apply List.ext_getElem <;> simp [upto]
theorem Gj (f:Nat→Nat) (n j:Nat):(upto f n j).set j (f j)=upto f n (j+1):=by
 apply List.ext_getElem
 ·simp [upto]
 ·intro i h1 h2
  simp only [upto,List.getElem_set,List.getElem_map,List.getElem_range]
  by_cases e:j=i
  ·subst e;simp
  ·rw [if_neg e]
   by_cases h:i < j
   ·rw [if_pos h,if_pos (by omega)]
   ·rw [if_neg h,if_neg (by omega)]
theorem TP (f:Nat→Nat) (n:Nat):upto f n n=(List.range n).map f:=by
 apply List.ext_getElem
 ·simp [upto]
 ·intro i h1 h2
  simp only [upto,List.getElem_map,List.getElem_range]
  rw [if_pos (by simpa [upto] using h1)]
end Go.Proofs.YthdgbgleklkaiaaDoor.Lm
namespace Go.Proofs.YthdgbgleklkaiaaDoor.Sc
open Go.RowKit Lm
def q:Nat:=7237005577332262213973186563042994240857116359379907606001950938285454250989
theorem JH:q < 256 ^ 32:=by decide +kernel
theorem Ox:0 < q:=by decide +kernel
def Qk (V i:Nat):Nat:=V / 2 ^ i % q
theorem TU (V i:Nat):Qk V i < q:=Nat.mod_lt _ Ox
theorem TQ (V:Nat):Qk V 0=V % q:=by simp [Qk]
theorem upq_top (V i:Nat) (h:V < 2 ^ i):Qk V i=0:=by rw [Qk,Nat.div_eq_of_lt h];rfl
theorem Zv (V i:Nat):V / 2 ^ i=2 * (V / 2 ^ (i+1))+V / 2 ^ i % 2:=by
 rw [Nat.pow_succ,← Nat.div_div_eq_div_mul]
 omega
theorem TT (V i n:Nat) (hn:n=2 * Qk V (i+1)+V / 2 ^ i % 2):(if n < q then n else n - q)=Qk V i:=by
 have h1:=TU V (i+1)
 have h2:V / 2 ^ i % 2 < 2:=Nat.mod_lt _ (by decide)
 have e:Qk V i=n % q:=by
  rw [Qk,Zv V i,hn,Qk]
  rw [Nat.add_mod,Nat.mul_mod,← Nat.mul_mod_mod,← Nat.mul_mod,← Nat.add_mod]
 rw [e]
 split
 ·rename_i h;rw [Nat.mod_eq_of_lt h]
 ·rename_i h
  rw [Nat.mod_eq_sub_mod (by omega),Nat.mod_eq_of_lt (by omega)]
end Go.Proofs.YthdgbgleklkaiaaDoor.Sc
namespace Go.Proofs.YthdgbgleklkaiaaDoor.Cu
open Go.RowKit Lm Fp
structure Pt where
 x:Nat
 y:Nat
 z:Nat
 t:Nat
def dd:Nat:=37095705934669439343138083508754565189542113879843219016388785533085940283555
def bx:Nat:=15112221349535400772501151409588531511454012693041857206046113283949847762202
def bY:Nat:=46316835694926478169428394003475163141307993866256225615783033603165251855960
def base:Pt:=⟨bx,bY,1,aA bx bY⟩
def nought:Pt:=⟨0,1,1,0⟩
def gX (P Q:Pt):Pt :=
 let a:=aA (aX P.y P.x) (aX Q.y Q.x)
 let b:=aA (aJ P.y P.x) (aJ Q.y Q.x)
 let c:=aA (aA P.t (aJ dd dd)) Q.t
 let z:=aA P.z (aJ Q.z Q.z)
 ⟨aA (aX b a) (aX z c),aA (aJ z c) (aJ b a),aA (aX z c) (aJ z c),aA (aX b a) (aJ b a)⟩
def jU (P:Pt) (k:Nat):Nat→Pt
 | 0=>nought
 | n+1=>if k / 2 ^ (255 - n) % 2=1 then gX (gX (jU P k n) (jU P k n)) P else gX (jU P k n) (jU P k n)
def lu (P:Pt):Nat:=aA P.y (finv P.z)+2 ^ 255 * (aA P.x (finv P.z) % 2)
def iQ (v:Nat):Option Pt :=
 let y:=v % 2 ^ 255
 if y < p then
  let r:=jr (aA (aX (aA y y) 1) (finv (aJ (aA dd (aA y y)) 1)))
  if r.2=true∧(v / 2 ^ 255=1→r.1≠0) then
   let x:=if v / 2 ^ 255=1 then aX 0 r.1 else r.1
   some ⟨x,y,1,aA x y⟩
  else none
 else none
def clamp (k:Nat):Nat:=k / 8 * 8 % 2 ^ 254+2 ^ 254
structure Pt.Ok (P:Pt):Prop where
 x:P.x < p
 y:P.y < p
 z:P.z < p
 t:P.t < p
theorem eadd_ok (P Q:Pt):(gX P Q).Ok:=⟨dD _ _,dD _ _,dD _ _,dD _ _⟩
theorem zf:1 < p:=by decide +kernel
theorem QS:nought.Ok:=⟨yZ,zf,zf,yZ⟩
theorem base_ok:base.Ok:=⟨by decide +kernel,by decide +kernel,zf,dD _ _⟩
theorem RA (P:Pt):lu P < 256 ^ 32:=by
 have h1:=dD P.y (finv P.z)
 have h2:aA P.x (finv P.z) % 2 < 2:=Nat.mod_lt _ (by decide)
 have h3:=p_eq
 have h4:(256:Nat) ^ 32=2 ^ 255+2 ^ 255:=by decide +kernel
 unfold lu
 rw [h4,← h3]
 rcases (show aA P.x (finv P.z) % 2=0∨aA P.x (finv P.z) % 2=1 by omega) with h|h <;> rw [h] <;> omega
structure La where
 a:Nat
 b:Nat
 c:Nat
 d:Nat
def lJ (x:Nat) (s:La):La :=
 let pp:=aA (aJ s.a s.b) (aJ s.a s.b)
 let mm:=aA (aX s.a s.b) (aX s.a s.b)
 let e:=aX pp mm
 let da:=aA (aX s.c s.d) (aJ s.a s.b)
 let cb:=aA (aJ s.c s.d) (aX s.a s.b)
 ⟨aA pp mm,aA e (aJ pp (aA 121665 e)),aA (aJ da cb) (aJ da cb),aA x (aA (aX da cb) (aX da cb))⟩
def La.swap (s:La) (b:Nat):La:=if b=1 then ⟨s.c,s.d,s.a,s.b⟩ else s
def Ej (x k:Nat):Nat→La
 | 0=>⟨1,0,x,1⟩
 | n+1=>(lJ x ((Ej x k n).swap (k / 2 ^ (254 - n) % 2))).swap (k / 2 ^ (254 - n) % 2)
def bV (k u:Nat):Nat :=
 let s:=Ej (u % 2 ^ 255 % p) (clamp k) 255
 aA s.a (finv s.b)
theorem uO (k u:Nat):bV k u < p:=dD _ _
end Go.Proofs.YthdgbgleklkaiaaDoor.Cu
namespace Go.Proofs.YthdgbgleklkaiaaDoor.Rd
open Go.RowKit Lm Fp Cu
def gy (a:Nat):Nat×Bool:=if aA (iB a eighth 256) (iB a eighth 256)=a then (iB a eighth 256,true) else (aA (iB a eighth 256) im,decide (aA (aA (iB a eighth 256) im) (aA (iB a eighth 256) im)=a))
theorem Gv (a:Nat):(gy a).1 < p:=by
 unfold gy
 split
 ·exact O5 _ _ _
 ·exact dD _ _
theorem fsub0 (r:Nat) (h:r < p):aX 0 r=if r=0 then 0 else p - r:=by
 unfold aX
 rw [Nat.zero_add]
 split
 ·rename_i e;subst e;rw [Nat.sub_zero,Nat.mod_self]
 ·rw [Nat.mod_eq_of_lt (by omega)]
theorem Ez (a:Nat):jr a=if (gy a).2=true then (if (gy a).1 % 2=1 then aX 0 (gy a).1 else (gy a).1,true) else (0,false):=by
 unfold jr gy
 simp only
 by_cases h:aA (iB a eighth 256) (iB a eighth 256)=a
 ·rw [if_pos h,if_pos h]
  simp only [h,if_true]
 ·rw [if_neg h,if_neg h]
  simp only [decide_eq_true_eq]
theorem p_odd:p % 2=1:=by decide +kernel
def under (y:Nat):Nat:=aA (aX (aA y y) 1) (finv (aJ (aA dd (aA y y)) 1))
theorem zR (v:Nat) (h:¬ v % 2 ^ 255 < p):iQ v=none:=by
 unfold iQ
 simp only
 rw [if_neg h]
theorem xB (v:Nat) (h:(gy (under (v % 2 ^ 255))).2=false):iQ v=none:=by
 unfold iQ
 simp only
 split
 ·rw [if_neg]
  rintro ⟨h1, -⟩
  have e:=Ez (under (v % 2 ^ 255))
  rw [h,if_neg (by decide)] at e
  rw [show jr (aA (aX (aA (v % 2 ^ 255) (v % 2 ^ 255)) 1) (finv (aJ (aA dd (aA (v % 2 ^ 255) (v % 2 ^ 255))) 1)))=jr (under (v % 2 ^ 255)) from rfl,e] at h1
  cases h1
 ·rfl
theorem xA (v:Nat) (hb:v / 2 ^ 255=1) (h0:(gy (under (v % 2 ^ 255))).1=0):iQ v=none:=by
 unfold iQ
 simp only
 split
 ·rw [if_neg]
  rintro ⟨h1,h2⟩
  rw [show jr (aA (aX (aA (v % 2 ^ 255) (v % 2 ^ 255)) 1) (finv (aJ (aA dd (aA (v % 2 ^ 255) (v % 2 ^ 255))) 1)))=jr (under (v % 2 ^ 255)) from rfl,Ez,h0] at h1 h2
  refine h2 hb ?_
  split at h1
  ·rename_i h3;rw [if_pos h3];rfl
  ·cases h1
 ·rfl
theorem LC (v r:Nat) (hv:v < 2 ^ 256) (hy:v % 2 ^ 255 < p) (hr:(gy (under (v % 2 ^ 255))).1=r) (hk:(gy (under (v % 2 ^ 255))).2=true) (hz:¬ (r=0∧v / 2 ^ 255=1)) :
  iQ v=some ⟨if r % 2≠v / 2 ^ 255 then aX 0 r else r,v % 2 ^ 255,1,aA (if r % 2≠v / 2 ^ 255 then aX 0 r else r) (v % 2 ^ 255)⟩:=by
 have hrl:=Gv (under (v % 2 ^ 255))
 rw [hr] at hrl
 have hod:=p_odd
 have f0:=fsub0 r hrl
 have hb2:v / 2 ^ 255=0∨v / 2 ^ 255=1:=by
  have:v / 2 ^ 255 < 2:=Nat.div_lt_of_lt_mul (by rw [← Nat.pow_succ];exact hv)
  omega
 have e:=Ez (under (v % 2 ^ 255))
 rw [hk,if_pos rfl,hr] at e
 unfold iQ
 simp only
 rw [if_pos hy,show jr (aA (aX (aA (v % 2 ^ 255) (v % 2 ^ 255)) 1) (finv (aJ (aA dd (aA (v % 2 ^ 255) (v % 2 ^ 255))) 1)))=jr (under (v % 2 ^ 255)) from rfl,e]
 simp only [true_and]
 have key:(if v / 2 ^ 255=1 then aX 0 (if r % 2=1 then aX 0 r else r) else if r % 2=1 then aX 0 r else r)=if r % 2≠v / 2 ^ 255 then aX 0 r else r:=by
  rcases hb2 with hb|hb
  ·rw [hb,if_neg (by decide)]
   by_cases h1:r % 2=1
   ·rw [if_pos h1,if_pos (by omega)]
   ·rw [if_neg h1,if_neg (by omega)]
  ·rw [hb,if_pos rfl]
   by_cases h1:r % 2=1
   ·rw [if_pos h1,if_neg (by omega),f0,if_neg (by omega),fsub0 _ (by omega),if_neg (by omega)]
    omega
   ·rw [if_neg h1,if_pos (by omega)]
 rw [if_pos,key]
 intro hb
 split
 ·rename_i h1
  rw [f0,if_neg (by omega)]
  omega
 ·intro h0
  exact hz ⟨h0,hb⟩
theorem enc_set (Y b:Nat) (hY:Y < 2 ^ 255) (hb:b≤1):(bD 256 32 Y).set 31 (Y / 256 ^ 31+128 * b)=bD 256 32 (Y+2 ^ 255 * b):=by
 have hlt:Y / 256 ^ 31 < 128:=Nat.div_lt_of_lt_mul (Nat.lt_of_lt_of_le hY (by decide))
 refine pG 256 (by decide) 32 _ _ (by rw [List.length_set,aI]) (jC (gV 256 (by decide) _ _) _ _ (by omega)) ?_
 have h:=mX 256 (bD 256 32 Y) 31 (Y / 256 ^ 31+128 * b) (by rw [aI];decide)
 rw [dA _ _ _ _ (by decide),eT,Nat.mod_eq_of_lt (show Y / 256 ^ 31 < 256 by omega),Nat.mod_eq_of_lt (Nat.lt_of_lt_of_le hY (by decide)),Nat.mul_add] at h
 have e:256 ^ 31 * (128 * b)=2 ^ 255 * b:=by rw [← Nat.mul_assoc]
 rw [e] at h
 omega
theorem TY (Y:Nat) (hY:Y < 2 ^ 255):(bD 256 32 Y).getD 31 0=Y / 256 ^ 31∧Y / 256 ^ 31 < 128:=by
 have hlt:Y / 256 ^ 31 < 128:=Nat.div_lt_of_lt_mul (Nat.lt_of_lt_of_le hY (by decide))
 rw [dA _ _ _ _ (by decide),Nat.mod_eq_of_lt (by omega)]
 exact ⟨rfl,hlt⟩
theorem zk (X:Nat):(bD 256 32 X).getD 0 0=X % 256:=by rw [dA _ _ _ _ (by decide)];simp
theorem O8 (v:Nat) (hv:v < 2 ^ 256):(bD 256 32 v).set 31 (v / 256 ^ 31 % 128)=bD 256 32 (v % 2 ^ 255):=by
 have hlt:v / 256 ^ 31 < 256:=Nat.div_lt_of_lt_mul (Nat.lt_of_lt_of_le hv (by decide))
 have hm:v % 2 ^ 255 < 2 ^ 255:=Nat.mod_lt _ (by decide)
 have hb2:v / 2 ^ 255≤1:=by
  have:v / 2 ^ 255 < 2:=Nat.div_lt_of_lt_mul (by rw [← Nat.pow_succ];exact hv)
  omega
 have hd:=Nat.mod_add_div v (2 ^ 255)
 refine pG 256 (by decide) 32 _ _ (by rw [List.length_set,aI]) (jC (gV 256 (by decide) _ _) _ _ (by omega)) ?_
 have h:=mX 256 (bD 256 32 v) 31 (v / 256 ^ 31 % 128) (by rw [aI];decide)
 rw [dA _ _ _ _ (by decide),eT,Nat.mod_eq_of_lt hlt,Nat.mod_eq_of_lt (Nat.lt_of_lt_of_le hv (by decide))] at h
 have e1:v / 256 ^ 31=v / 256 ^ 31 % 128+128 * (v / 2 ^ 255):=by
  have:v / 2 ^ 255=v / 256 ^ 31 / 128:=by rw [Nat.div_div_eq_div_mul]
  rw [this,Nat.mod_add_div]
 have e2:256 ^ 31 * (v / 256 ^ 31)=256 ^ 31 * (v / 256 ^ 31 % 128)+2 ^ 255 * (v / 2 ^ 255):=by
  rw [show (2:Nat) ^ 255 * (v / 2 ^ 255)=256 ^ 31 * (128 * (v / 2 ^ 255)) by rw [← Nat.mul_assoc],← Nat.mul_add,← e1]
 omega
theorem top_bit (v:Nat):v / 256 ^ 31 / 128=v / 2 ^ 255:=by rw [Nat.div_div_eq_div_mul]
theorem oK (v:Nat) (hv:v < 2 ^ 256):(bD 256 32 v).getD 31 0=v / 256 ^ 31∧v / 256 ^ 31 < 256:=by
 have hlt:v / 256 ^ 31 < 256:=Nat.div_lt_of_lt_mul (Nat.lt_of_lt_of_le hv (by decide))
 rw [dA _ _ _ _ (by decide),Nat.mod_eq_of_lt hlt]
 exact ⟨rfl,hlt⟩
end Go.Proofs.YthdgbgleklkaiaaDoor.Rd
namespace Go.Proofs.YthdgbgleklkaiaaDoor.Po
open Go.RowKit Lm
def fold (v:Nat):Nat:=v % 2 ^ 130+5 * (v / 2 ^ 130)
theorem pq (v:Nat):fold v % (2 ^ 130 - 5)=v % (2 ^ 130 - 5):=by
 have h:v=fold v+(2 ^ 130 - 5) * (v / 2 ^ 130):=by unfold fold;omega
 have:(fold v+(2 ^ 130 - 5) * (v / 2 ^ 130)) % (2 ^ 130 - 5)=fold v % (2 ^ 130 - 5):=Nat.add_mul_mod_self_left _ _ _
 rw [← h] at this
 exact this.symm
theorem and_split (k a b:Nat):a &&& b=(a % 2 ^ k &&& b % 2 ^ k)+2 ^ k * (a / 2 ^ k &&& b / 2 ^ k):=by
 have h1:(a &&& b) % 2 ^ k=a % 2 ^ k &&& b % 2 ^ k:=Nat.and_mod_two_pow
 have h2:(a &&& b) / 2 ^ k=a / 2 ^ k &&& b / 2 ^ k:=Nat.and_div_two_pow
 rw [← h1,← h2]
 exact (Nat.mod_add_div _ _).symm
def mask:Nat:=21267647620597763993911028882763415551
def rv (ks:List Nat):Nat:=val 256 ks &&& mask
def masks:List Nat:=[255,255,255,15,252,255,255,15,252,255,255,15,252,255,255,15]
theorem N8:∀ xs ms:List Nat,(∀ x∈xs,x < 256)→(∀ x∈ms,x < 256)→val 256 xs &&& val 256 ms=val 256 (List.zipWith (· &&& ·) xs ms)
 | [],_,_,_=>by simp [val]
 | _ :: _,[],_,_=>by simp [val]
 | x :: xs,m :: ms,hx,hm=>by
  have h1:=hx x (by simp)
  have h2:=hm m (by simp)
  have ih:=N8 xs ms (fun y hy=>hx y (by simp [hy])) (fun y hy=>hm y (by simp [hy]))
  rw [List.zipWith_cons_cons,val,val,val,← ih,and_split 8]
  rw [show (2:Nat) ^ 8=256 by rfl,Nat.add_mul_mod_self_left,Nat.add_mul_mod_self_left,Nat.mod_eq_of_lt h1,Nat.mod_eq_of_lt h2,Nat.add_mul_div_left _ _ (by decide),Nat.add_mul_div_left _ _ (by decide),Nat.div_eq_of_lt h1,Nat.div_eq_of_lt h2,Nat.zero_add,Nat.zero_add]
theorem Uk (ks:List Nat) (hb:∀ x∈ks,x < 256):rv ks=val 256 (List.zipWith (· &&& ·) ks masks):=by
 rw [← N8 ks masks hb (by decide)]
 rfl
theorem Ig (b:Nat):∀ (n k v:Nat),(bD b (n+k) v).take n=bD b n v
 | 0,_,_=>by simp [bD]
 | n+1,k,v=>by
  rw [show n+1+k=(n+k)+1 by omega,bD,bD,List.take_succ_cons,Ig b n k]
def acc (r:Nat) (m:List Nat):Nat→Nat
 | 0=>0
 | q+1=>(acc r m q+val 256 ((m.drop (16 * q)).take 16 ++ [1])) * r % (2 ^ 130 - 5)
def Jv (ks m:List Nat):List Nat:=bD 256 16 (acc (rv ks) m ((m.length+15) / 16)+val 256 (ks.drop 16))
end Go.Proofs.YthdgbgleklkaiaaDoor.Po
namespace Go.Proofs.YthdgbgleklkaiaaDoor.Po
open Go.RowKit Lm
def d9 (n:Nat) (f:Nat→Nat):List Nat:=(List.range n).map f
theorem iM (n:Nat) (f:Nat→Nat):(d9 n f).length=n:=by simp [d9]
theorem yH (n:Nat) (f:Nat→Nat) (i:Nat) (h:i < n):(d9 n f).getD i 0=f i:=by simp [d9,List.getD,h]
theorem yG (n:Nat) (f:Nat→Nat) (j x:Nat):(d9 n f).set j x=d9 n (fun i=>if i=j then x else f i):=by
 apply List.ext_getElem
 ·simp [d9]
 ·intro i h1 h2
  simp only [d9,List.getElem_set,List.getElem_map,List.getElem_range]
  by_cases e:j=i
  ·rw [if_pos e,if_pos e.symm]
  ·rw [if_neg e,if_neg (fun h=>e h.symm)]
theorem jy (n:Nat) (f g:Nat→Nat) (h:∀ i,i < n→f i=g i):d9 n f=d9 n g:=by
 apply List.map_congr_left
 intro i hi
 exact h i (by simpa using hi)
theorem mZ (n:Nat) (xs:List Nat) (h:xs.length=n):xs=d9 n (fun i=>xs.getD i 0):=by
 apply List.ext_getElem
 ·rw [iM,h]
 ·intro i h1 h2
  simp [d9,List.getD,h1]
theorem xM (n:Nat) (f:Nat→Nat) (b:Nat) (h:∀ i,i < n→f i < b):∀ x∈d9 n f,x < b:=by
 intro x hx
 simp only [d9,List.mem_map,List.mem_range] at hx
 obtain ⟨i,hi,rfl⟩:=hx
 exact h i hi
def sm:Nat→(Nat→Nat)→Nat
 | 0,_=>0
 | n+1,f=>sm n f+f n
theorem kR (n:Nat) (f g:Nat→Nat) (h:∀ i,i < n→f i=g i):sm n f=sm n g:=by
 induction n with
 | zero=>rfl
 | succ n ih=>rw [sm,sm,ih (fun i hi=>h i (by omega)),h n (by omega)]
theorem Ug (n:Nat) (f g:Nat→Nat):sm n (fun i=>f i+g i)=sm n f+sm n g:=by
 induction n with
 | zero=>rfl
 | succ n ih=>rw [sm,sm,sm,ih];omega
theorem DK (n c:Nat) (f:Nat→Nat):sm n (fun i=>c * f i)=c * sm n f:=by
 induction n with
 | zero=>rfl
 | succ n ih=>rw [sm,sm,ih,Nat.mul_add]
theorem sm_zero (n:Nat):sm n (fun _=>0)=0:=by
 induction n with
 | zero=>rfl
 | succ n ih=>rw [sm,ih]
theorem sm_comm (n k:Nat) (f:Nat→Nat→Nat):sm n (fun i=>sm k (fun j=>f i j))=sm k (fun j=>sm n (fun i=>f i j)):=by
 induction k with
 | zero=>exact sm_zero n
 | succ k ih=>simp only [sm];rw [Ug,ih]
theorem sm_le (n b:Nat) (f:Nat→Nat) (h:∀ i,i < n→f i≤b):sm n f≤n * b:=by
 induction n with
 | zero=>simp [sm]
 | succ n ih =>
  have h1:=ih (fun i hi=>h i (by omega))
  have h2:=h n (by omega)
  rw [sm,Nat.succ_mul]
  omega
theorem Uf (n:Nat) (f:Nat→Nat):sm (n+1) f=f 0+sm n (fun i=>f (i+1)):=by
 induction n with
 | zero=>simp [sm]
 | succ n ih =>
  have e:sm (n+1+1) f=sm (n+1) f+f (n+1):=rfl
  have e2:sm (n+1) (fun i=>f (i+1))=sm n (fun i=>f (i+1))+f (n+1):=rfl
  rw [e,ih,e2]
  omega
theorem mD (n:Nat) (f:Nat→Nat):val 256 (d9 n f)=sm n (fun i=>256 ^ i * f i):=by
 induction n with
 | zero=>rfl
 | succ n ih =>
  have e:d9 (n+1) f=d9 n f ++ [f n]:=by simp [d9,List.range_succ]
  rw [e,val_append,ih,iM,sm]
  simp [val]
def pk (v:Nat):List Nat:=(bD 256 16 v).set 0 (v % 256+5 * (v / 2 ^ 130)) ++ [v / 256 ^ 16 % 4]
theorem JM (v:Nat):(pk v).length=17:=by simp [pk,aI]
theorem yj (v:Nat):val 256 (pk v)=fold v:=by
 have h:=mX 256 (bD 256 16 v) 0 (v % 256+5 * (v / 2 ^ 130)) (by rw [aI];decide)
 rw [dA _ _ _ _ (by decide),eT] at h
 rw [pk,val_append,List.length_set,aI]
 unfold fold
 simp only [val,Nat.pow_zero,Nat.one_mul,Nat.div_one] at h ⊢
 omega
theorem pk_lt (v b:Nat) (hb:256≤b) (h:v % 256+5 * (v / 2 ^ 130) < b):∀ x∈pk v,x < b:=by
 intro x hx
 rw [pk,List.mem_append,List.mem_singleton] at hx
 rcases hx with hx|rfl
 ·exact jC (fun x hx=>Nat.lt_of_lt_of_le (gV 256 (by decide) 16 v x hx) hb) 0 _ h x hx
 ·omega
theorem lC (b:Nat):∀ n v,bD b (n+1) v=bD b n v ++ [v / b ^ n % b]
 | 0,v=>by simp [bD]
 | n+1,v=>by
  rw [bD,lC b n,bD,List.cons_append,Nat.div_div_eq_div_mul,Nat.pow_succ,Nat.mul_comm b]
theorem nM (b:Nat) (hb:0 < b):∀ n v x,bD b n (v+b ^ n * x)=bD b n v
 | 0,_,_=>rfl
 | n+1,v,x=>by
  rw [bD,bD]
  have e:b ^ (n+1) * x=b * (b ^ n * x):=by rw [Nat.pow_succ,Nat.mul_comm (b ^ n) b,Nat.mul_assoc]
  rw [e,Nat.add_mul_mod_self_left,Nat.add_mul_div_left _ _ hb,nM b hb n]
def mid (hs:List Nat) (i:Nat):List Nat:=bD 256 i (val 256 (hs.take i)) ++ hs.drop i
theorem mid_zero (hs:List Nat):mid hs 0=hs:=by simp [mid,bD]
theorem mid_len (hs:List Nat) (i:Nat) (h:i≤hs.length):(mid hs i).length=hs.length:=by simp [mid,aI];omega
theorem xP (hs:List Nat) (i:Nat):(mid hs i).getD i 0=hs.getD i 0:=by
 simp only [mid,List.getD]
 rw [List.getElem?_append_right (by rw [aI];exact Nat.le_refl _),aI,Nat.sub_self,List.getElem?_drop,Nat.add_zero]
theorem mid_step (hs:List Nat) (i u:Nat) (h:i < hs.length) (hu:u=val 256 (hs.take i) / 256 ^ i) :
  (mid hs i).set i ((u+hs.getD i 0) % 256)=mid hs (i+1)∧(u+hs.getD i 0) / 256=val 256 (hs.take (i+1)) / 256 ^ (i+1):=by
 have hv:=bS 256 hs i h
 have hp:0 < 256 ^ i:=Nat.pow_pos (by decide)
 have hq:(val 256 (hs.take (i+1))) / 256 ^ i=u+hs.getD i 0:=by rw [hv,Nat.add_mul_div_left _ _ hp,← hu]
 constructor
 ·rw [mid,mid,lC,hq,hv,nM 256 (by decide),List.set_append_right _ _ (by rw [aI];exact Nat.le_refl _),aI,Nat.sub_self,List.append_assoc]
  congr 1
  rw [List.drop_eq_getElem_cons h,List.set_cons_zero]
  rfl
 ·rw [← hq,Nat.pow_succ,Nat.div_div_eq_div_mul]
theorem mid_end (hs:List Nat) (u:Nat) (h:hs.length=17) (hu:u=val 256 (hs.take 16) / 256 ^ 16) :
  ((mid hs 16).set 16 ((u+hs.getD 16 0) % 4)).set 0 (((mid hs 16).set 16 ((u+hs.getD 16 0) % 4)).getD 0 0+5 * ((u+hs.getD 16 0) / 4))=pk (val 256 hs):=by
 have hv:=bS 256 hs 16 (by omega)
 rw [List.take_of_length_le (show hs.length≤16+1 by omega)] at hv
 have hp:0 < 256 ^ 16:=by decide
 have hq:val 256 hs / 256 ^ 16=u+hs.getD 16 0:=by rw [hv,Nat.add_mul_div_left _ _ hp,← hu]
 have hd:mid hs 16=bD 256 16 (val 256 hs) ++ [hs.getD 16 0]:=by
  rw [mid,hv,nM 256 (by decide)]
  congr 1
  rw [List.drop_eq_getElem_cons (by omega:16 < hs.length),List.drop_of_length_le (by omega)]
  simp [List.getD,show 16 < hs.length by omega]
 rw [hd,List.set_append_right _ _ (by rw [aI];exact Nat.le_refl _),aI,Nat.sub_self,List.set_cons_zero,pk,hq]
 generalize u+hs.getD 16 0=U at hq ⊢
 rw [List.set_append_left _ _ (by rw [aI];decide)]
 congr 2
 have e1:(bD 256 16 (val 256 hs) ++ [U % 4]).getD 0 0=val 256 hs % 256:=by rw [bD,List.cons_append];rfl
 rw [e1,show val 256 hs / 2 ^ 130=U / 4 by rw [← hq,Nat.div_div_eq_div_mul]]
theorem Jr (b M:Nat) (hb:2≤b):∀ xs:List Nat,(∀ x∈xs,x≤M)→val b xs+M≤M * b ^ xs.length
 | [],_=>by simp [val]
 | x :: xs,h=>by
  have h1:=h x (by simp)
  have h2:=Jr b M hb xs (fun y hy=>h y (by simp [hy]))
  rw [val,List.length_cons,Nat.pow_succ]
  have h3:b * (val b xs+M)≤b * (M * b ^ xs.length):=Nat.mul_le_mul_left b h2
  have h4:2 * M≤b * M:=Nat.mul_le_mul_right M hb
  rw [Nat.mul_add] at h3
  have h5:M * (b ^ xs.length * b)=b * (M * b ^ xs.length):=by rw [← Nat.mul_assoc,Nat.mul_comm]
  omega
theorem val17 (hs:List Nat) (hl:hs.length=17) (h:∀ x∈hs,x < 2 ^ 45):val 256 hs < 2 ^ 181:=by
 have:=Jr 256 (2 ^ 45 - 1) (by decide) hs (fun x hx=>by have:=h x hx;omega)
 rw [hl] at this
 omega
theorem Hz (v:Nat) (h:v < 2 ^ 181):fold v < 2 ^ 131:=by unfold fold;omega
theorem zN (v:Nat) (h:v < 2 ^ 131):fold v < 2 ^ 130+10∧fold (fold v) < 2 ^ 130:=by unfold fold;omega
theorem pk_big (v:Nat) (h:v < 2 ^ 181):∀ x∈pk v,x < 2 ^ 60:=pk_lt v _ (by decide) (by omega)
theorem UK (v:Nat) (h:v < 2 ^ 131):∀ x∈pk v,x < 266:=pk_lt v _ (by decide) (by omega)
theorem pk_dig (v:Nat) (h:v < 2 ^ 130):pk v=bD 256 17 v:=by
 have e:bD 256 17 v=bD 256 16 v ++ [v / 256 ^ 16 % 256]:=lC 256 16 v
 have e2:(bD 256 16 v).set 0 (v % 256)=bD 256 16 v:=by rw [bD];rfl
 rw [e,pk,show v / 2 ^ 130=0 by omega,Nat.mul_zero,Nat.add_zero,e2]
 congr 2
 omega
def eU (r:Nat→Nat) (j i:Nat):Nat:=if j≤i then r (i - j) else 320 * r (i+17 - j)
theorem Ur (r:Nat→Nat) (j:Nat) (h:j≤16):sm 17 (fun i=>256 ^ i * eU r (j+1) i)+64 * (2 ^ 130 - 5) * eU r j 16=256 * sm 17 (fun i=>256 ^ i * eU r j i):=by
 have e1:sm 17 (fun i=>256 ^ i * eU r (j+1) i)=256 ^ 0 * eU r (j+1) 0+sm 16 (fun i=>256 ^ (i+1) * eU r (j+1) (i+1)):=Uf 16 _
 have e2:sm 16 (fun i=>256 ^ (i+1) * eU r (j+1) (i+1))=256 * sm 16 (fun i=>256 ^ i * eU r j i):=by
  rw [← DK]
  apply kR
  intro i hi
  rw [Nat.pow_succ,Nat.mul_comm (256 ^ i) 256,Nat.mul_assoc]
  congr 2
  unfold eU
  by_cases hj:j≤i
  ·rw [if_pos (by omega),if_pos hj]
   congr 1
   omega
  ·rw [if_neg (by omega),if_neg hj]
   congr 2
   omega
 have e3:sm 17 (fun i=>256 ^ i * eU r j i)=sm 16 (fun i=>256 ^ i * eU r j i)+256 ^ 16 * eU r j 16:=rfl
 have e4:eU r (j+1) 0=320 * eU r j 16:=by
  unfold eU
  rw [if_neg (by omega),if_pos h]
  congr 2
  omega
 rw [e1,e2,e3,e4]
 omega
theorem Oi (r:Nat→Nat):∀ j,j≤17→sm 17 (fun i=>256 ^ i * eU r j i) % (2 ^ 130 - 5)=256 ^ j * sm 17 (fun i=>256 ^ i * r i) % (2 ^ 130 - 5)
 | 0,_=>by
  rw [Nat.pow_zero,Nat.one_mul]
  refine congrArg (· % (2 ^ 130 - 5)) ?_
  apply kR
  intro i _
  unfold eU
  rw [if_pos (Nat.zero_le _),Nat.sub_zero]
 | j+1,h=>by
  have ih:=Oi r j (by omega)
  have hs:=Ur r j (by omega)
  have h1:(256 * sm 17 (fun i=>256 ^ i * eU r j i)) % (2 ^ 130 - 5)=sm 17 (fun i=>256 ^ i * eU r (j+1) i) % (2 ^ 130 - 5):=by
   rw [← hs]
   generalize 2 ^ 130 - 5=P
   rw [Nat.mul_comm 64 P,Nat.mul_assoc,Nat.add_mul_mod_self_left]
  rw [← h1,Nat.mul_mod,ih,← Nat.mul_mod,show 256 ^ (j+1)=256 * 256 ^ j from Nat.pow_succ',Nat.mul_assoc]
theorem sm_mod (P n:Nat) (f g:Nat→Nat) (h:∀ i,i < n→f i % P=g i % P):sm n f % P=sm n g % P:=by
 induction n with
 | zero=>rfl
 | succ n ih=>rw [sm,sm,Nat.add_mod,ih (fun i hi=>h i (by omega)),h n (by omega),← Nat.add_mod]
def conv (h r:Nat→Nat) (i:Nat):Nat:=sm 17 (fun j=>h j * eU r j i)
theorem Zl (h r:Nat→Nat):val 256 (d9 17 (conv h r)) % (2 ^ 130 - 5)=val 256 (d9 17 h) * val 256 (d9 17 r) % (2 ^ 130 - 5):=by
 rw [mD,mD,mD]
 have e1:sm 17 (fun i=>256 ^ i * conv h r i)=sm 17 (fun j=>h j * sm 17 (fun i=>256 ^ i * eU r j i)):=by
  have e2:sm 17 (fun i=>256 ^ i * conv h r i)=sm 17 (fun i=>sm 17 (fun j=>h j * (256 ^ i * eU r j i))):=by
   apply kR
   intro i _
   unfold conv
   rw [← DK]
   apply kR
   intro j _
   rw [← Nat.mul_assoc,Nat.mul_comm (256 ^ i),Nat.mul_assoc]
  rw [e2,sm_comm]
  apply kR
  intro j _
  rw [DK]
 rw [e1,sm_mod (2 ^ 130 - 5) 17 _ (fun j=>h j * (256 ^ j * sm 17 (fun i=>256 ^ i * r i)))]
 ·congr 1
  rw [Nat.mul_comm,← DK]
  apply kR
  intro j _
  rw [Nat.mul_comm (256 ^ j),← Nat.mul_assoc,Nat.mul_comm (h j),Nat.mul_assoc,Nat.mul_comm (h j)]
 ·intro j hj
  rw [Nat.mul_mod,Oi r j (by omega),← Nat.mul_mod]
theorem Pf (h r:Nat→Nat) (i:Nat) (hh:∀ j,j < 17→h j < 2 ^ 20) (hr:∀ j,j < 17→r j < 256) (hi:i < 17):conv h r i < 2 ^ 45:=by
 have:conv h r i≤17 * (2 ^ 20 * (320 * 256)):=sm_le _ _ _ (fun j hj=>by
  refine Nat.mul_le_mul (Nat.le_of_lt (hh j hj)) ?_
  unfold eU
  split
  ·have:=hr (i - j) (by omega);omega
  ·have:=hr (i+17 - j) (by omega);omega)
 omega
end Go.Proofs.YthdgbgleklkaiaaDoor.Po
