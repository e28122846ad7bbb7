/- Numbers as rows of digits, in plain words. Reckoning modulo 2^255 - 19, in plain numbers, and what the code's steps come to. The document's numbers modulo p, sixteen digits to the. Condition: as each theorem says. -/

import Derived.Test.YthdgbgleklkaiaaDoorQb01
open List renaming getD→acD,replicate→acE,getD_cons_succ→acH,length_cons→acM,mem_of_getElem?→acN,ext_getElem→acP,mem_or_eq_of_mem_set→acU
open Nat renaming pow_succ→acF,mod_eq_of_lt→acG,add_comm→acJ,mul_comm→acK,mod_lt→acL,lt_or_ge→acR,div_div_eq_div_mul→acT,mod_eq_sub_mod→acY
open Int renaming pow_succ→acI,toNat→acO,mul_add→acQ,natCast_emod→acS,add_mul_emod_self_left→adA
set_option linter.unusedSimpArgs false
set_option linter.unusedVariables false
namespace Go.Proofs.YthdgbgleklkaiaaDoor.Lm
open Go.RowKit
def val (b:Nat):List Nat→Nat
 | []=>0
 | x :: xs=>x+b * val b xs
def bD (b:Nat):Nat→Nat→List Nat
 | 0,_=>[]
 | n+1,v=>v % b :: bD b n (v / b)
theorem aK (b:Nat):∀ n v,(bD b n v).length=n
 | 0,_=>rfl
 | n+1,v=>by simp [bD,aK b n]
theorem fA (b:Nat):∀ n v,val b (bD b n v)=v % b ^ n
 | 0,v=>by simp [bD,val,Nat.mod_one]
 | n+1,v=>by
  rw [bD,val,fA b n,acF,acK (b ^ n) b,Nat.mod_mul]
theorem ig (b:Nat) (hb:0 < b):∀ n v,∀ x∈bD b n v,x < b
 | 0,_,x,h=>by simp [bD] at h
 | n+1,v,x,h=>by
  rw [bD,List.mem_cons] at h
  rcases h with rfl|h
  ·exact acL _ hb
  ·exact ig b hb n _ x h
theorem rO (b:Nat):∀ xs:List Nat,(∀ x∈xs,x < b)→val b xs < b ^ xs.length
 | [],_=>by simp [val]
 | x :: xs,h=>by
  have h1:=h x (by simp)
  have h2:=rO b xs (fun y hy=>h y (by simp [hy]))
  rw [val,acM,acF]
  have h3:b * (val b xs+1)≤b * b ^ xs.length:=Nat.mul_le_mul_left b h2
  rw [acK (b ^ xs.length) b]
  rw [Nat.mul_add] at h3
  omega
theorem FJ (b:Nat) (hb:0 < b):∀ xs:List Nat,(∀ x∈xs,x < b)→bD b xs.length (val b xs)=xs
 | [],_=>rfl
 | x :: xs,h=>by
  have h1:=h x (by simp)
  rw [acM,bD,val,Nat.add_mul_mod_self_left,acG h1,Nat.add_mul_div_left _ _ hb,Nat.div_eq_of_lt h1,Nat.zero_add,FJ b hb xs (fun y hy=>h y (by simp [hy]))]
theorem qp (b:Nat) (hb:0 < b) (n v:Nat) (xs:List Nat) (hl:xs.length=n) (h:∀ x∈xs,x < b) (hv:val b xs=v):xs=bD b n v:=by
 subst hl hv
 exact (FJ b hb xs h).symm
theorem dz (b:Nat):∀ n v i,i < n→(bD b n v).getD i 0=v / b ^ i % b
 | 0,_,_,h=>by omega
 | n+1,v,0,_=>by simp [bD]
 | n+1,v,i+1,h=>by
  rw [bD,acH,dz b n _ i (by omega),acT,acF,acK b]
theorem val_append (b:Nat):∀ xs ys:List Nat,val b (xs ++ ys)=val b xs+b ^ xs.length * val b ys
 | [],ys=>by simp [val]
 | x :: xs,ys=>by
  rw [List.cons_append,val,val,val_append b xs ys,acM,acF]
  grind
theorem bS (b:Nat) (xs:List Nat) (i:Nat) (h:i < xs.length):val b (xs.take (i+1))=val b (xs.take i)+b ^ i * xs.getD i 0:=by
 rw [List.take_succ_eq_append_getElem h,val_append]
 simp [val,acD,h,Nat.min_eq_left (Nat.le_of_lt h)]
theorem kL (b:Nat) (xs:List Nat) (i v:Nat) (h:i < xs.length):val b ((xs.set i v).take (i+1))=val b (xs.take i)+b ^ i * v:=by
 rw [bS _ _ _ (by simpa using h),List.take_set_of_le (Nat.le_refl i)]
 simp [acD,h]
theorem nH (b:Nat):∀ (xs:List Nat) (i v:Nat),i < xs.length→val b (xs.set i v)+b ^ i * xs.getD i 0=val b xs+b ^ i * v
 | [],i,v,h=>by simp at h
 | x :: xs,0,v,_=>by
  simp [val]
  omega
 | x :: xs,i+1,v,h=>by
  have ih:=nH b xs i v (by simpa using h)
  rw [List.set_cons_succ,val,val,acH,acF]
  grind
theorem mJ (b n:Nat):val b (acE n 0)=0:=by
 induction n with
 | zero=>rfl
 | succ n ih=>rw [List.replicate_succ,val,ih];simp
theorem dx {b:Nat} {xs:List Nat} (h:∀ x∈xs,x < b) (hb:0 < b) (i:Nat):xs.getD i 0 < b:=by
 simp only [acD]
 cases e:xs[i]? with
 | none=>simpa using hb
 | some y=>simpa using h y (acN e)
theorem jI {b:Nat} {xs:List Nat} (h:∀ x∈xs,x < b) (i v:Nat) (hv:v < b):∀ x∈xs.set i v,x < b:=by
 intro x hx
 rcases acU hx with h1|rfl
 ·exact h x h1
 ·exact hv
def aW (xs:List Nat):List Int:=xs.map Int.ofNat
theorem aJ (xs:List Nat):(aW xs).length=xs.length:=by simp [aW]
theorem bG (xs:List Nat) (i:Nat):(aW xs).getD i 0=((xs.getD i 0:Nat):Int):=by
 simp only [aW,acD,List.getElem?_map]
 cases xs[i]? <;> rfl
theorem dw (xs:List Nat) (i v:Nat):aW (xs.set i v)=(aW xs).set i (v:Int):=by simp [aW,List.map_set]
theorem jf (n:Nat):aW (acE n 0)=acE n 0:=by simp [aW]
theorem KH (xs:List Int) (h:∀ x∈xs,0≤x):aW (xs.map acO)=xs:=by
 induction xs with
 | nil=>rfl
 | cons x xs ih =>
  have h1:=h x (by simp)
  rw [List.map_cons,aW,List.map_cons]
  rw [show List.map Int.ofNat (List.map acO xs)=xs from ih (fun y hy=>h y (by simp [hy]))]
  congr 1
  exact Int.toNat_of_nonneg h1
theorem Ju (b i X Y S x y c s c':Nat) (h:S+b ^ i * c=X+Y) (hs:s+b * c'=x+y+c):S+b ^ i * s+b ^ (i+1) * c'=(X+b ^ i * x)+(Y+b ^ i * y):=by
 rw [acF]
 have:b ^ i * (s+b * c')=b ^ i * (x+y+c):=by rw [hs]
 grind
theorem Vq (b i X Y S x y c s c':Nat) (h:S+Y=X+b ^ i * c) (hs:s+y+c=x+b * c'):(S+b ^ i * s)+(Y+b ^ i * y)=(X+b ^ i * x)+b ^ (i+1) * c':=by
 rw [acF]
 have:b ^ i * (s+y+c)=b ^ i * (x+b * c'):=by rw [hs]
 grind
end Go.Proofs.YthdgbgleklkaiaaDoor.Lm
namespace Go.Proofs.YthdgbgleklkaiaaDoor.Fp
open Go.RowKit Lm
def p:Nat:=57896044618658097711785492504343953926634992332820282019728792003956564819949
theorem p_eq:p+19=2 ^ 255:=by decide +kernel
theorem zW:0 < p:=by decide +kernel
theorem top_eq:18446744073709551616 ^ 4=2 * p+38:=by decide +kernel
def aL (x y:Nat):Nat:=(x+y) % p
def aX (x y:Nat):Nat:=(x+p - y) % p
def aA (x y:Nat):Nat:=x * y % p
def iE (a e:Nat):Nat→Nat
 | 0=>1
 | n+1=>if e / 2 ^ (255 - n) % 2=1 then aA (aA (iE a e n) (iE a e n)) a else aA (iE a e n) (iE a e n)
def finv (a:Nat):Nat:=iE a (p - 2) 256
def eighth:Nat:=7237005577332262213973186563042994240829374041602535252466099000494570602494
def im:Nat:=19681161376707505956807079304988542015446066515923890162744021073123829784752
def jC (a:Nat):Nat×Bool :=
 let x:=iE a eighth 256
 let y:=if aA x x=a then x else aA x im
 if aA y y=a then (if y % 2=1 then aX 0 y else y,true) else (0,false)
theorem Qm (x y:Nat):aX x y < p:=acL _ zW
theorem dH (x y:Nat):aA x y < p:=acL _ zW
theorem Qo (a e:Nat):∀ n,iE a e n < p
 | 0=>by show 1 < p;decide +kernel
 | n+1=>by
  unfold iE
  split
  ·exact dH _ _
  ·exact dH _ _
def ru (x:Nat):Nat:=if x < p then x else x - p
theorem Ik {x q:Nat} (h1:q≤x) (h2:x < 2 * q):x % q=x - q:=by
 rw [acY h1,acG (by omega)]
theorem SF (x:Nat) (hx:x < 18446744073709551616 ^ 4):ru (ru x)=x % p:=by
 rw [top_eq] at hx
 have hp:38 < p:=by decide +kernel
 unfold ru
 generalize p=q at hx hp
 by_cases h1:x < q
 ·rw [if_pos h1,if_pos h1,acG h1]
 ·rw [if_neg h1]
  by_cases h2:x - q < q
  ·rw [if_pos h2,Ik (by omega) (by omega)]
  ·rw [if_neg h2,acY (by omega),Ik (by omega) (by omega)]
theorem VY (a e n:Nat):iE a e (n+1)=if e / 2 ^ (255 - n) % 2=1 then aA (aA (iE a e n) (iE a e n)) a else aA (iE a e n) (iE a e n):=rfl
end Go.Proofs.YthdgbgleklkaiaaDoor.Fp
namespace Go.Proofs.YthdgbgleklkaiaaDoor.Rd
open Go.RowKit Lm Fp
def tb (n:Nat) (f:Nat→Int):List Int:=(List.range n).map f
theorem dU (n:Nat) (f:Nat→Int):(tb n f).length=n:=by simp [tb]
theorem jh (n:Nat) (f:Nat→Int) (i:Nat) (h:i < n):(tb n f).getD i 0=f i:=by simp [tb,acD,h]
theorem iN (n:Nat) (f:Nat→Int) (j:Nat) (x:Int):(tb n f).set j x=tb n (fun i=>if i=j then x else f i):=by
 apply acP
 ·simp [tb]
 ·intro i h1 h2
  simp only [tb,List.getElem_set,List.getElem_map,List.getElem_range]
  by_cases e:j=i
  ·rw [if_pos e,if_pos e.symm]
  ·rw [if_neg e,if_neg (fun h=>e h.symm)]
theorem bZ (n:Nat) (f g:Nat→Int) (h:∀ i,i < n→f i=g i):tb n f=tb n g:=by
 apply List.map_congr_left
 intro i hi
 exact h i (by simpa using hi)
theorem Dj (n:Nat) (xs:List Int) (h:xs.length=n):xs=tb n (fun i=>xs.getD i 0):=by
 apply acP
 ·rw [dU,h]
 ·intro i h1 h2
  simp [tb,acD,h1]
theorem zo (n:Nat) (f:Nat→Int) (P:Int→Prop) (h:∀ i,i < n→P (f i)):∀ x∈tb n f,P x:=by
 intro x hx
 simp only [tb,List.mem_map,List.mem_range] at hx
 obtain ⟨i,hi,rfl⟩:=hx
 exact h i hi
theorem tY (n:Nat):acE n 0=tb n (fun _=>0):=by
 apply acP <;> simp [tb]
def si:Nat→(Nat→Int)→Int
 | 0,_=>0
 | n+1,f=>si n f+f n
theorem iC (n:Nat) (f g:Nat→Int) (h:∀ i,i < n→f i=g i):si n f=si n g:=by
 induction n with
 | zero=>rfl
 | succ n ih=>rw [si,si,ih (fun i hi=>h i (by omega)),h n (by omega)]
theorem Ki (n:Nat) (f g:Nat→Int):si n (fun i=>f i+g i)=si n f+si n g:=by
 induction n with
 | zero=>rfl
 | succ n ih=>rw [si,si,si,ih];omega
theorem si_sub (n:Nat) (f g:Nat→Int):si n (fun i=>f i - g i)=si n f - si n g:=by
 induction n with
 | zero=>rfl
 | succ n ih=>rw [si,si,si,ih];omega
theorem EK (n:Nat) (c:Int) (f:Nat→Int):si n (fun i=>c * f i)=c * si n f:=by
 induction n with
 | zero=>simp [si]
 | succ n ih=>rw [si,si,ih,acQ]
theorem zI (n m:Nat) (f:Nat→Int):si (n+m) f=si n f+si m (fun i=>f (n+i)):=by
 induction m with
 | zero=>simp [si]
 | succ m ih=>rw [Nat.add_succ,si,si,ih];omega
def vi (xs:List Int):Int:=si xs.length (fun i=>65536 ^ i * xs.getD i 0)
theorem wV (n:Nat) (f:Nat→Int):vi (tb n f)=si n (fun i=>65536 ^ i * f i):=by
 unfold vi
 rw [dU]
 exact iC _ _ _ fun i hi=>by rw [jh _ _ _ hi]
theorem Vx (n i:Nat) (f:Nat→Int) (v:Int) (hi:i < n):si n (fun k=>if k=i then v else f k)=si n f - f i+v:=by
 induction n with
 | zero=>omega
 | succ n ih =>
  rw [si,si]
  by_cases e:i=n
  ·subst e
   rw [if_pos rfl,iC i _ f (fun k hk=>by rw [if_neg (by omega)])]
   omega
  ·rw [ih (by omega),if_neg (by omega)]
   omega
theorem U7 (xs:List Int) (i:Nat) (v:Int) (hi:i < xs.length):vi (xs.set i v)=vi xs+65536 ^ i * (v - xs.getD i 0):=by
 rw [Dj xs.length xs rfl,iN,wV,wV,jh _ _ _ hi]
 have:=Vx xs.length i (fun k=>65536 ^ k * xs.getD k 0) (65536 ^ i * v) hi
 rw [iC _ (fun k=>65536 ^ k * if k=i then v else xs.getD k 0) (fun k=>if k=i then 65536 ^ i * v else 65536 ^ k * xs.getD k 0) (fun k _=>by by_cases e:k=i <;> simp [e]),this,Int.mul_sub]
 omega
def cr (xs:List Int):Nat→Int
 | 0=>0
 | j+1=>(xs.getD j 0+cr xs j) / 65536
def mid (xs:List Int) (i:Nat):List Int:=tb 16 fun j=>if j < i then (xs.getD j 0+cr xs j) % 65536 else if j=i then xs.getD j 0+cr xs j else xs.getD j 0
def carry (xs:List Int):List Int:=tb 16 fun j=>(xs.getD j 0+cr xs j) % 65536+if j=0 then 38 * cr xs 16 else 0
theorem mid_zero (xs:List Int) (h:xs.length=16):mid xs 0=xs:=by
 refine Eq.trans (bZ _ _ _ fun i _=>?_) (Dj 16 xs h).symm
 rw [if_neg (by omega)]
 by_cases e:i=0
 ·subst e;rw [if_pos rfl,cr];omega
 ·rw [if_neg e]
theorem yE (xs:List Int) (i:Nat) (h:i < 16):(mid xs i).getD i 0=xs.getD i 0+cr xs i:=by
 rw [mid,jh _ _ _ h,if_neg (by omega),if_pos rfl]
theorem WK (xs:List Int) (i j:Nat) (h:j < 16) (hi:i < j):(mid xs i).getD j 0=xs.getD j 0:=by
 rw [mid,jh _ _ _ h,if_neg (by omega),if_neg (by omega)]
theorem mid_step (xs:List Int) (i:Nat) (x:Int) (h:i < 15) (hx:xs.getD i 0+cr xs i=x) :
  ((mid xs i).set i (x % 65536)).set (i+1) (xs.getD (i+1) 0+x / 65536)=mid xs (i+1):=by
 subst hx
 rw [mid,iN,iN]
 refine bZ _ _ _ fun j hj=>?_
 by_cases e:j=i+1
 ·subst e
  rw [if_pos rfl,if_neg (by omega),if_pos rfl]
  rfl
 ·rw [if_neg e]
  by_cases e2:j=i
  ·subst e2;rw [if_pos rfl,if_pos (by omega)]
  ·rw [if_neg e2]
   by_cases e3:j < i
   ·rw [if_pos e3,if_pos (by omega)]
   ·rw [if_neg e3,if_neg e2,if_neg (by omega),if_neg e]
theorem mid_end (xs:List Int) (x:Int) (hx:xs.getD 15 0+cr xs 15=x) :
  ((mid xs 15).set 15 (x % 65536)).set 0 ((xs.getD 0 0+cr xs 0) % 65536+38 * (x / 65536))=carry xs:=by
 subst hx
 rw [mid,iN,iN]
 refine bZ _ _ _ fun j hj=>?_
 by_cases e:j=0
 ·subst e
  rw [if_pos rfl,if_pos rfl]
  rfl
 ·rw [if_neg e,if_neg e]
  by_cases e2:j=15
  ·subst e2;rw [if_pos rfl];omega
  ·rw [if_neg e2,if_pos (by omega)];omega
theorem gW (xs:List Int):(carry xs).length=16:=dU _ _
theorem tele (xs:List Int) (n:Nat):si n (fun j=>65536 ^ j * ((xs.getD j 0+cr xs j) % 65536))=si n (fun j=>65536 ^ j * xs.getD j 0) - 65536 ^ n * cr xs n:=by
 induction n with
 | zero=>simp [si,cr]
 | succ n ih =>
  rw [si,si,ih,cr]
  have:=Int.emod_add_mul_ediv (xs.getD n 0+cr xs n) 65536
  generalize (xs.getD n 0+cr xs n) / 65536=d at this ⊢
  generalize (xs.getD n 0+cr xs n) % 65536=r at this ⊢
  have e:(65536:Int) ^ (n+1)=65536 ^ n * 65536:=acI _ _
  have e2:(65536:Int) ^ n * (r+65536 * d)=65536 ^ n * (xs.getD n 0+cr xs n):=by rw [this]
  rw [e]
  grind
theorem Va (xs:List Int) (h:xs.length=16):vi (carry xs)=vi xs - (65536 ^ 16 - 38) * cr xs 16:=by
 have e:vi xs=si 16 (fun j=>65536 ^ j * xs.getD j 0):=by unfold vi;rw [h]
 rw [e,carry,wV]
 have e1:si 16 (fun i=>65536 ^ i * ((xs.getD i 0+cr xs i) % 65536+if i=0 then 38 * cr xs 16 else 0))=si 16 (fun i=>65536 ^ i * ((xs.getD i 0+cr xs i) % 65536))+si 16 (fun i=>if i=0 then 38 * cr xs 16 else 0):=by
  rw [← Ki]
  refine iC _ _ _ fun i _=>?_
  by_cases e:i=0
  ·subst e;simp
  ·simp [e]
 rw [e1,tele]
 have e2:si 16 (fun i=>if i=0 then 38 * cr xs 16 else 0)=38 * cr xs 16:=by
  rw [Vx 16 0 (fun _=>0) _ (by decide)]
  have:si 16 (fun _=>(0:Int))=0:=by decide
  rw [this];omega
 rw [e2,Int.sub_mul]
 omega
theorem AQ (xs:List Int) (M C:Int) (hM:∀ j, -M≤xs.getD j 0∧xs.getD j 0≤M) (hC:M+C≤65536 * C) (h0:0≤C):∀ j, -C≤cr xs j∧cr xs j≤C
 | 0=>by rw [cr];omega
 | j+1=>by
  have ih:=AQ xs M C hM hC h0 j
  have:=hM j
  rw [cr]
  omega
theorem bT (xs:List Int) (M:Int) (h:∀ x∈xs, -M≤x∧x≤M) (h0:0≤M) (j:Nat) : -M≤xs.getD j 0∧xs.getD j 0≤M:=by
 simp only [acD]
 cases e:xs[j]? with
 | none=>simp;omega
 | some y=>simpa using h y (acN e)
def jZ (D:Int) (xs:List Int):Prop:=xs.length=16∧(-D≤xs.getD 0 0∧xs.getD 0 0≤65535+D)∧∀ j,0≤xs.getD (j+1) 0∧xs.getD (j+1) 0≤65535
theorem Vm (n:Nat) (f:Nat→Int) (j:Nat) (h:n≤j):(tb n f).getD j 0=0:=by
 simp only [acD]
 rw [List.getElem?_eq_none (by rw [dU];exact h)]
 rfl
theorem rZ (xs:List Int) (C:Int) (h : -C≤cr xs 16∧cr xs 16≤C):jZ (38 * C) (carry xs):=by
 refine ⟨gW xs,?_,fun j=>?_⟩
 ·rw [carry,jh _ _ _ (by decide),if_pos rfl]
  omega
 ·rw [carry]
  rcases acR (j+1) 16 with hj|hj
  ·rw [jh _ _ _ hj,if_neg (by omega)]
   omega
  ·rw [Vm _ _ _ hj]
   omega
theorem kZ (xs:List Int) (M C:Int) (hM:∀ j, -M≤xs.getD j 0∧xs.getD j 0≤M) (hC:M+C≤65536 * C) (h0:0≤C):jZ (38 * C) (carry xs):=rZ xs C (AQ xs M C hM hC h0 16)
theorem cr_near (xs:List Int) (D:Int) (h:jZ D xs) (h0:0≤D) (h1:D≤1099511627776):∀ j,3≤j → -1≤cr xs j∧cr xs j≤1:=by
 obtain ⟨_,h2,h3⟩:=h
 have c1:cr xs 1=(xs.getD 0 0+0) / 65536:=rfl
 have c2:cr xs 2=(xs.getD 1 0+cr xs 1) / 65536:=rfl
 have q1:=h3 0
 intro j hj
 induction j with
 | zero=>omega
 | succ j ih =>
  have qj:=h3 (j - 1)
  rcases acR j 3 with hlt|hge
  ·obtain rfl:j=2:=by omega
   rw [show (2 - 1+1:Nat)=2 from rfl] at qj
   rw [show (0+1:Nat)=1 from rfl] at q1
   rw [cr]
   omega
  ·have:=ih hge
   rw [show j - 1+1=j by omega] at qj
   rw [cr]
   omega
theorem qz (xs:List Int) (D:Int) (h:jZ D xs) (h0:0≤D) (h1:D≤1099511627776):jZ 38 (carry xs):=rZ xs 1 (cr_near xs D h h0 h1 16 (by decide))
theorem mU {D:Int} {xs:List Int} (h:jZ D xs) (h0:0≤D):∀ x∈xs, -D≤x∧x≤65535+D:=by
 intro x hx
 obtain ⟨i,hi,rfl⟩:=List.getElem_of_mem hx
 have e:xs[i]=xs.getD i 0:=by simp [acD,hi]
 rw [e]
 cases i with
 | zero=>exact h.2.1
 | succ i=>have:=h.2.2 i;omega
theorem qA (xs:List Int) (h:jZ 38 xs):jZ 0 (carry xs):=by
 have key:∀ j,cr xs (j+1)=0∨(cr xs (j+1) = -1∧xs.getD 0 0 < 0)∨(cr xs (j+1)=1∧65536≤xs.getD 0 0):=by
  intro j
  induction j with
  | zero =>
   have c1:cr xs (0+1)=(xs.getD 0 0+0) / 65536:=rfl
   have:=h.2.1
   rw [c1]
   omega
  | succ j ih =>
   have c1:cr xs (j+1+1)=(xs.getD (j+1) 0+cr xs (j+1)) / 65536:=rfl
   have:=h.2.2 j
   rw [c1]
   omega
 have k16:=key 15
 have hf:=h.2.1
 refine ⟨gW xs,?_,fun j=>?_⟩
 ·rw [carry,jh _ _ _ (by decide),if_pos rfl,cr]
  rw [show (15+1:Nat)=16 from rfl] at k16
  omega
 ·have:=(rZ xs 1 (by rw [show (15+1:Nat)=16 from rfl] at k16;omega)).2.2 j
  exact this
theorem Sg {D E:Int} {xs:List Int} (h:jZ D xs) (hd:D≤E):jZ E xs:=⟨h.1,⟨by have:=h.2.1;omega,by have:=h.2.1;omega⟩,h.2.2⟩
def El (xs:List Int) (a:Nat):Prop:=xs.length=16∧(∀ x∈xs, -1048576≤x∧x≤1048576)∧vi xs % (p:Int)=(a:Int)
theorem pz:(0:Int) < (p:Int):=by decide +kernel
theorem El.lt {xs:List Int} {a:Nat} (h:El xs a):a < p:=by
 have h1:=Int.emod_lt_of_pos (vi xs) pz
 rw [h.2.2] at h1
 omega
theorem top_p:(65536:Int) ^ 16 - 38=(p:Int) * 2:=by decide +kernel
theorem uM (x k:Int):(x - (p:Int) * k) % (p:Int)=x % (p:Int):=by
 rw [show x - (p:Int) * k=x+(p:Int) * (-k) by grind,adA]
theorem jg (xs:List Int) (h:xs.length=16):vi (carry xs) % (p:Int)=vi xs % (p:Int):=by
 rw [Va xs h,top_p,Int.mul_assoc,uM]
theorem EW {D:Int} {xs:List Int} (h:jZ D xs) (h0:0≤D) (h1:D≤900000) (a:Nat) (ha:vi xs % (p:Int)=(a:Int)):El xs a :=
 ⟨h.1,fun x hx=>by have:=mU h h0 x hx;omega,ha⟩
theorem mh (n:Nat) (xs:List Int) (h:xs.length=n):vi xs=si n (fun i=>65536 ^ i * xs.getD i 0):=by unfold vi;rw [h]
def EG (xs ys:List Int):List Int:=tb 16 fun i=>xs.getD i 0+ys.getD i 0
def AP (xs ys:List Int):List Int:=tb 16 fun i=>xs.getD i 0 - ys.getD i 0
theorem vi_sumr (xs ys:List Int) (hx:xs.length=16) (hy:ys.length=16):vi (EG xs ys)=vi xs+vi ys:=by
 rw [EG,wV,mh 16 xs hx,mh 16 ys hy,← Ki]
 exact iC _ _ _ fun i _=>acQ _ _ _
theorem OY (xs ys:List Int) (hx:xs.length=16) (hy:ys.length=16):vi (AP xs ys)=vi xs - vi ys:=by
 rw [AP,wV,mh 16 xs hx,mh 16 ys hy,← si_sub]
 exact iC _ _ _ fun i _=>Int.mul_sub _ _ _
theorem zu (n:Nat) (f:Nat→Int) (M:Int) (h:∀ i,i < n → -M≤f i∧f i≤M) (h0:0≤M) (j:Nat) : -M≤(tb n f).getD j 0∧(tb n f).getD j 0≤M :=
 bT _ M (zo n f (fun x => -M≤x∧x≤M) h) h0 j
theorem EY (z:Int) (a:Nat) (h:z % (p:Int)=((a:Nat):Int) % (p:Int)):z % (p:Int)=((a % p:Nat):Int):=by rw [h];exact (acS a p).symm
theorem El.add {xs ys:List Int} {a b:Nat} (hx:El xs a) (hy:El ys b):El (carry (EG xs ys)) (aL a b):=by
 refine EW (D:=38 * 33) (kZ _ 2097152 33 (zu _ _ _ (fun i _=>?_) (by decide)) (by decide) (by decide)) (by decide) (by decide) _ ?_
 ·have h1:=bT xs 1048576 hx.2.1 (by decide) i
  have h2:=bT ys 1048576 hy.2.1 (by decide) i
  omega
 ·show vi (carry (EG xs ys)) % (p:Int)=_
  rw [jg _ (show (EG xs ys).length=16 from dU _ _),vi_sumr _ _ hx.1 hy.1]
  refine EY _ _ ?_
  rw [Int.add_emod,hx.2.2,hy.2.2,Int.natCast_add]
theorem El.sub {xs ys:List Int} {a b:Nat} (hx:El xs a) (hy:El ys b):El (carry (AP xs ys)) (aX a b):=by
 refine EW (D:=38 * 33) (kZ _ 2097152 33 (zu _ _ _ (fun i _=>?_) (by decide)) (by decide) (by decide)) (by decide) (by decide) _ ?_
 ·have h1:=bT xs 1048576 hx.2.1 (by decide) i
  have h2:=bT ys 1048576 hy.2.1 (by decide) i
  omega
 ·show vi (carry (AP xs ys)) % (p:Int)=_
  rw [jg _ (show (AP xs ys).length=16 from dU _ _),OY _ _ hx.1 hy.1]
  refine EY _ _ ?_
  have hb:=hy.lt
  rw [Int.sub_emod,hx.2.2,hy.2.2,show ((a+p - b:Nat):Int)=((a:Int) - (b:Int))+(p:Int) * 1 by omega,adA]
def foldr (ts:List Int):List Int:=tb 16 fun i=>if i < 15 then ts.getD i 0+38 * ts.getD (i+16) 0 else ts.getD i 0
theorem Tj (ts:List Int) (h:ts.length=31):vi (foldr ts) % (p:Int)=vi ts % (p:Int):=by
 have e1:vi (foldr ts)=si 16 (fun i=>65536 ^ i * ts.getD i 0)+38 * si 15 (fun i=>65536 ^ i * ts.getD (i+16) 0):=by
  have a1:si 16 (fun i=>65536 ^ i * ts.getD i 0)=si 15 (fun i=>65536 ^ i * ts.getD i 0)+65536 ^ 15 * ts.getD 15 0:=rfl
  have a2:si 16 (fun i=>65536 ^ i * (if i < 15 then ts.getD i 0+38 * ts.getD (i+16) 0 else ts.getD i 0))=si 15 (fun i=>65536 ^ i * (if i < 15 then ts.getD i 0+38 * ts.getD (i+16) 0 else ts.getD i 0))+65536 ^ 15 * ts.getD 15 0:=rfl
  rw [foldr,wV,a1,a2,← EK,iC 15 (fun i=>65536 ^ i * (if i < 15 then ts.getD i 0+38 * ts.getD (i+16) 0 else ts.getD i 0)) (fun i=>65536 ^ i * ts.getD i 0+38 * (65536 ^ i * ts.getD (i+16) 0)) (fun i hi=>by rw [if_pos hi];grind),Ki]
  omega
 have e2:vi ts=si 16 (fun i=>65536 ^ i * ts.getD i 0)+65536 ^ 16 * si 15 (fun i=>65536 ^ i * ts.getD (i+16) 0):=by
  rw [mh 31 ts h,show 31=16+15 from rfl,zI,← EK]
  congr 1
  refine iC _ _ _ fun i _=>?_
  rw [Int.pow_add,acJ 16 i]
  grind
 generalize si 15 (fun i=>65536 ^ i * ts.getD (i+16) 0)=H at e1 e2
 have e3:=uM (vi ts) (2 * H)
 rw [show vi ts - (p:Int) * (2 * H)=vi (foldr ts) by rw [← Int.mul_assoc,← top_p,e1,e2];grind] at e3
 exact e3
theorem El.mul {xs ys ts:List Int} {a b:Nat} (hx:El xs a) (hy:El ys b) (hl:ts.length=31) (hb:∀ j, -17592186044416≤ts.getD j 0∧ts.getD j 0≤17592186044416) (hv:vi ts=vi xs * vi ys) :
  El (carry (carry (foldr ts))) (aA a b):=by
 have n1:jZ (38 * 17180200000) (carry (foldr ts)):=kZ _ 1125899906842624 17180200000 (zu _ _ _ (fun i _=>by
  have h1:=hb i
  have h2:=hb (i+16)
  split <;> omega) (by decide)) (by decide) (by decide)
 refine EW (D:=38) (qz _ _ n1 (by decide) (by decide)) (by decide) (by decide) _ ?_
 rw [jg _ n1.1,jg _ (show (foldr ts).length=16 from dU _ _),Tj _ hl,hv]
 refine EY _ _ ?_
 rw [Int.mul_emod,hx.2.2,hy.2.2,Int.natCast_mul]
theorem R6 (xs ys ts:List Int) (i k:Nat) (hi:i < 16) (hk:k < 16) (ht:ts.length=31) (V:Int) (hV:vi ts=V+65536 ^ i * xs.getD i 0 * si k (fun j=>65536 ^ j * ys.getD j 0)) :
  vi (ts.set (i+k) (ts.getD (i+k) 0+xs.getD i 0 * ys.getD k 0))=V+65536 ^ i * xs.getD i 0 * si (k+1) (fun j=>65536 ^ j * ys.getD j 0):=by
 rw [U7 _ _ _ (by omega),hV,si,Int.pow_add]
 grind
theorem prod_bound (xs ys ts:List Int) (i k:Nat) (hx:∀ j, -1048576≤xs.getD j 0∧xs.getD j 0≤1048576) (hy:∀ j, -1048576≤ys.getD j 0∧ys.getD j 0≤1048576) (hi:i < 16) (hk:k < 16) (ht:ts.length=31)
  (hb:∀ n, -(1099511627776 * ((i:Int)+if i≤n∧n < i+k then 1 else 0))≤ts.getD n 0∧ts.getD n 0≤1099511627776 * ((i:Int)+if i≤n∧n < i+k then 1 else 0)) :
  (∀ n, -(1099511627776 * ((i:Int)+if i≤n∧n < i+(k+1) then 1 else 0))≤(ts.set (i+k) (ts.getD (i+k) 0+xs.getD i 0 * ys.getD k 0)).getD n 0∧(ts.set (i+k) (ts.getD (i+k) 0+xs.getD i 0 * ys.getD k 0)).getD n 0≤1099511627776 * ((i:Int)+if i≤n∧n < i+(k+1) then 1 else 0)):=by
 intro n
 have hp : -1099511627776≤xs.getD i 0 * ys.getD k 0∧xs.getD i 0 * ys.getD k 0≤1099511627776:=by
  have h1:=hx i
  have h2:=hy k
  generalize xs.getD i 0=x at h1
  generalize ys.getD k 0=y at h2
  have e:=Int.natAbs_mul x y
  have a1:x.natAbs≤1048576:=by omega
  have a2:y.natAbs≤1048576:=by omega
  have:=Nat.mul_le_mul a1 a2
  omega
 by_cases e:n=i+k
 ·subst e
  have h:=hb (i+k)
  have eg:(ts.set (i+k) (ts.getD (i+k) 0+xs.getD i 0 * ys.getD k 0)).getD (i+k) 0=ts.getD (i+k) 0+xs.getD i 0 * ys.getD k 0:=by
   simp [acD,show i+k < ts.length by omega]
  rw [eg]
  rw [if_neg (by omega)] at h
  rw [if_pos (by omega)]
  omega
 ·have h:=hb n
  have eg:(ts.set (i+k) (ts.getD (i+k) 0+xs.getD i 0 * ys.getD k 0)).getD n 0=ts.getD n 0:=by
   simp only [acD]
   rw [List.getElem?_set_ne (fun e'=>e e'.symm)]
  rw [eg]
  by_cases e2:i≤n∧n < i+k
  ·rw [if_pos e2] at h
   rw [if_pos (by omega)]
   exact h
  ·rw [if_neg e2] at h
   rw [if_neg (by omega)]
   exact h
end Go.Proofs.YthdgbgleklkaiaaDoor.Rd
namespace Go.Proofs.YthdgbgleklkaiaaDoor.Rd
open Go.RowKit Lm Fp
theorem U8 (ns:List Nat):vi (aW ns)=(val 65536 ns:Int):=by
 induction ns with
 | nil=>rfl
 | cons n ns ih =>
  have e1:vi (aW (n :: ns))=(n:Int)+65536 * vi (aW ns):=by
   rw [mh (1+ns.length) (aW (n :: ns)) (by simp [aW];omega),zI,mh ns.length (aW ns) (by simp [aW]),← EK]
   have:si 1 (fun i=>(65536:Int) ^ i * (aW (n :: ns)).getD i 0)=n:=by simp [si,aW]
   rw [this]
   congr 1
   refine iC _ _ _ fun i _=>?_
   rw [bG,bG,acJ 1 i,acH,acI]
   grind
  rw [e1,ih,val]
  omega
theorem Dy {xs:List Int} (h:jZ 0 xs):∃ ns:List Nat,xs=aW ns∧ns.length=16∧(∀ n∈ns,n < 65536):=by
 have hm:=mU h (by decide)
 refine ⟨xs.map acO,(KH xs fun x hx=>by have:=hm x hx;omega).symm,by simpa using h.1,fun n hn=>?_⟩
 obtain ⟨x,hx,rfl⟩:=List.mem_map.1 hn
 have:=hm x hx
 omega
theorem Dz {xs:List Int} (h:jZ 0 xs) (V:Nat) (hv:vi xs=V):xs=aW (bD 65536 16 V)∧V < 65536 ^ 16:=by
 obtain ⟨ns,rfl,hl,hb⟩:=Dy h
 rw [U8] at hv
 have hv':val 65536 ns=V:=by omega
 refine ⟨by rw [← qp 65536 (by decide) 16 V ns hl hb hv'],?_⟩
 have:=rO 65536 ns hb
 rw [hl,hv'] at this
 exact this
theorem Si {xs:List Int} (h:jZ 0 xs):∃ V:Nat,vi xs=V:=by
 obtain ⟨ns,rfl,_,_⟩:=Dy h
 exact ⟨_,U8 ns⟩
def P16:List Int:=[65517,65535,65535,65535,65535,65535,65535,65535,65535,65535,65535,65535,65535,65535,65535,32767]
theorem vi_P:vi P16=(p:Int):=by decide +kernel
def sb (ds:List Int) (i:Nat):List Int:=tb 16 fun j=>if j+1 < i then (ds.getD j 0+cr ds j) % 65536 else if j+1=i then ds.getD j 0+cr ds j else 0
theorem sb_one (ds:List Int):(acE 16 (0:Int)).set 0 (ds.getD 0 0)=sb ds 1:=by
 rw [tY,iN]
 refine bZ _ _ _ fun j _=>?_
 by_cases e:j=0
 ·subst e;rw [if_pos rfl,if_neg (by omega),if_pos rfl,cr];omega
 ·rw [if_neg e,if_neg (by omega),if_neg (by omega)]
theorem sb_get (ds:List Int) (i:Nat) (h:i < 16):(sb ds (i+1)).getD i 0=ds.getD i 0+cr ds i:=by
 rw [sb,jh _ _ _ h,if_neg (by omega),if_pos rfl]
theorem O9 (ds:List Int) (i:Nat) (x:Int) (_h:i < 15) (hx:ds.getD i 0+cr ds i=x) :
  ((sb ds (i+1)).set (i+1) (ds.getD (i+1) 0+x / 65536)).set i (x % 65536)=sb ds (i+2):=by
 subst hx
 rw [sb,iN,iN]
 refine bZ _ _ _ fun j hj=>?_
 by_cases e:j=i
 ·subst e
  rw [if_pos rfl,if_pos (by omega)]
 ·rw [if_neg e]
  by_cases e2:j=i+1
  ·subst e2
   rw [if_pos rfl,if_neg (by omega),if_pos (by omega)]
   rfl
  ·rw [if_neg e2]
   by_cases e3:j < i
   ·rw [if_pos (by omega),if_pos (by omega)]
   ·rw [if_neg (by omega),if_neg (by omega),if_neg (by omega),if_neg (by omega)]
theorem sb_last (ds:List Int):sb ds 16=mid ds 15:=by
 refine bZ _ _ _ fun j hj=>?_
 by_cases e:j < 15
 ·rw [if_pos (by omega),if_pos e]
 ·rw [if_neg (by omega),if_neg e,if_pos (by omega),if_pos (by omega)]
def kC (us:List Int):List Int:=AP us P16
theorem mY (us:List Int) (j:Nat) (hj:j < 16):(kC us).getD j 0=us.getD j 0 - P16.getD j 0:=by rw [kC,AP,jh _ _ _ hj]
theorem P16_get (j:Nat) (h:0 < j) (h2:j < 15):P16.getD j 0=65535:=by
 match j,h,h2 with
 | 1,_,_|2,_,_|3,_,_|4,_,_|5,_,_|6,_,_|7,_,_|8,_,_|9,_,_|10,_,_|11,_,_|12,_,_|13,_,_|14,_,_=>rfl
theorem wh (j:Nat):0≤P16.getD j 0∧P16.getD j 0≤65535:=by
 simp only [acD]
 cases e:P16[j]? with
 | none=>simp
 | some y =>
  have h:∀ x∈P16,0≤x∧x≤65535:=by decide
  simpa using h y (acN e)
theorem jH {us:List Int} (h:jZ 0 us) (j:Nat):0≤us.getD j 0∧us.getD j 0≤65535:=by
 cases j with
 | zero=>have:=h.2.1;omega
 | succ j=>exact h.2.2 j
theorem FI {us:List Int} (h:jZ 0 us):∀ j,j≤16 → -1≤cr (kC us) j∧cr (kC us) j≤0
 | 0,_=>by rw [cr];omega
 | j+1,hj=>by
  have ih:=FI h j (by omega)
  have h1:=jH h j
  have h2:=wh j
  rw [cr,mY us j (by omega)]
  omega
theorem U9 (ds:List Int):vi (mid ds 15)=si 15 (fun j=>65536 ^ j * ((ds.getD j 0+cr ds j) % 65536))+65536 ^ 15 * (ds.getD 15 0+cr ds 15):=by
 have a1:∀ f:Nat→Int,si 16 f=si 15 f+f 15:=fun _=>rfl
 rw [mid,wV,a1]
 congr 1
theorem vi_mid2 (ds:List Int) (h:ds.length=16):vi (mid ds 15)=vi ds:=by
 have a1:∀ f:Nat→Int,si 16 f=si 15 f+f 15:=fun _=>rfl
 rw [U9,tele,mh 16 ds h,a1,acQ]
 omega
theorem Vy (f:Nat→Int) (h:∀ j,0≤f j∧f j≤65535):∀ n,0≤si n (fun j=>65536 ^ j * f j)∧si n (fun j=>65536 ^ j * f j) < 65536 ^ n
 | 0=>by simp [si]
 | n+1=>by
  have ih:=Vy f h n
  have hf:=h n
  have hp:(0:Int) < 65536 ^ n:=Int.pow_pos (by decide)
  have e1:(65536:Int) ^ n * f n≤65536 ^ n * 65535:=Int.mul_le_mul_of_nonneg_left hf.2 (by omega)
  have e2:0≤(65536:Int) ^ n * f n:=Int.mul_nonneg (by omega) hf.1
  have e3:(65536:Int) ^ (n+1)=65536 ^ n * 65536:=acI _ _
  rw [si]
  omega
theorem sub_dec {us:List Int} (h:jZ 0 us) (V:Nat) (hv:vi us=V) :
  ((kC us).getD 15 0+cr (kC us) 15 < 0∧V < p)∨(0≤(kC us).getD 15 0+cr (kC us) 15∧p≤V∧jZ 0 (mid (kC us) 15)∧vi (mid (kC us) 15)=((V - p:Nat):Int)):=by
 have e:vi (mid (kC us) 15)=(V:Int) - (p:Int):=by rw [vi_mid2 _ (show (kC us).length=16 from dU _ _),kC,OY _ _ h.1 rfl,hv,vi_P]
 have e2:=U9 (kC us)
 have e3:=Vy (fun j=>((kC us).getD j 0+cr (kC us) j) % 65536) (fun j=>by omega) 15
 have e4:(65536:Int) ^ 15=1766847064778384329583297500742918515827483896875618958121606201292619776:=by decide
 have h15:=jH h 15
 have p15:=wh 15
 have c15:=FI h 15 (by decide)
 have d15:=mY us 15 (by decide)
 by_cases hs:(kC us).getD 15 0+cr (kC us) 15 < 0
 ·refine .inl ⟨hs,?_⟩
  rw [e,e4] at e2
  rw [e4] at e3
  generalize si 15 (fun j=>65536 ^ j * (((kC us).getD j 0+cr (kC us) j) % 65536))=L at e2 e3
  omega
 ·refine .inr ⟨by omega,?_,⟨dU _ _,?_,fun j=>?_⟩,?_⟩
  ·rw [e,e4] at e2
   rw [e4] at e3
   generalize si 15 (fun j=>65536 ^ j * (((kC us).getD j 0+cr (kC us) j) % 65536))=L at e2 e3
   omega
  ·rw [mid,jh _ _ _ (by decide),if_pos (by decide)]
   omega
  ·rcases acR (j+1) 16 with hj|hj
   ·rw [mid,jh _ _ _ hj]
    by_cases e5:j+1 < 15
    ·rw [if_pos e5];omega
    ·rw [if_neg e5,if_pos (by omega),show j+1=15 by omega]
     omega
   ·rw [mid,Vm _ _ _ hj];omega
  ·rw [e]
   have:p≤V:=by
    rw [e,e4] at e2
    rw [e4] at e3
    generalize si 15 (fun j=>65536 ^ j * (((kC us).getD j 0+cr (kC us) j) % 65536))=L at e2 e3
    omega
   omega
def byt (us:List Int) (j:Nat):Int:=us.getD (j / 2) 0 / 256 ^ (j % 2) % 256
def outs (us:List Int) (i:Nat):List Int:=tb 32 fun j=>if j < 2 * i then byt us j else 0
theorem R9 (us:List Int):acE 32 0=outs us 0:=by
 rw [tY]
 exact bZ _ _ _ fun j _=>by rw [if_neg (by omega)]
theorem Sb (us:List Int) (i:Nat) (x:Int) (hx:us.getD i 0=x):((outs us i).set (2 * i) (x % 256)).set (2 * i+1) (x / 256 % 256)=outs us (i+1):=by
 subst hx
 rw [outs,iN,iN]
 refine bZ _ _ _ fun j _=>?_
 by_cases e:j=2 * i+1
 ·subst e
  rw [if_pos rfl,if_pos (by omega),byt,show (2 * i+1) / 2=i by omega,show (2 * i+1) % 2=1 by omega]
  simp
 ·rw [if_neg e]
  by_cases e2:j=2 * i
  ·subst e2
   rw [if_pos rfl,if_pos (by omega),byt,show 2 * i / 2=i by omega,show 2 * i % 2=0 by omega]
   simp
  ·rw [if_neg e2]
   by_cases e3:j < 2 * i
   ·rw [if_pos e3,if_pos (by omega)]
   ·rw [if_neg e3,if_neg (by omega)]
theorem Wm (V:Nat):outs (aW (bD 65536 16 V)) 16=aW (bD 256 32 V):=by
 rw [Dj 32 (aW (bD 256 32 V)) (by rw [aJ,aK])]
 refine bZ _ _ _ fun j hj=>?_
 rw [if_pos (by omega),bG,dz _ _ _ _ hj,byt,bG,dz _ _ _ _ (by omega)]
 have e:256 ^ j=65536 ^ (j / 2) * 256 ^ (j % 2):=by
  rw [show (65536:Nat)=256 ^ 2 by rfl,← Nat.pow_mul,← Nat.pow_add]
  congr 1
  omega
 rw [e,← acT]
 generalize V / 65536 ^ (j / 2)=y
 have:j % 2=0∨j % 2=1:=by omega
 rcases this with h|h
 ·rw [h];simp only [Int.pow_zero,Nat.pow_zero,Nat.div_one,Int.ediv_one];omega
 ·rw [h];simp only [Nat.pow_one];omega
def ins (ns:List Int) (i:Nat):List Int:=tb 16 fun j=>if j < i then ns.getD (2 * j) 0+256 * ns.getD (2 * j+1) 0 else 0
theorem WZ (ns:List Int):acE 16 0=ins ns 0:=by
 rw [tY]
 exact bZ _ _ _ fun j _=>by rw [if_neg (by omega)]
theorem W9 (ns:List Int) (i:Nat):(ins ns i).set i (ns.getD (2 * i) 0+256 * ns.getD (2 * i+1) 0)=ins ns (i+1):=by
 rw [ins,iN]
 refine bZ _ _ _ fun j _=>?_
 by_cases e:j=i
 ·subst e;rw [if_pos rfl,if_pos (by omega)]
 ·rw [if_neg e]
  by_cases e3:j < i
  ·rw [if_pos e3,if_pos (by omega)]
  ·rw [if_neg e3,if_neg (by omega)]
theorem He:∀ (n:Nat) (ns:List Nat),ns.length=2 * n→si n (fun j=>(65536:Int) ^ j * ((aW ns).getD (2 * j) 0+256 * (aW ns).getD (2 * j+1) 0))=(val 256 ns:Int)
 | 0,[],_=>rfl
 | n+1,a :: b :: ns,h=>by
  have ih:=He n ns (by simp at h;omega)
  rw [acJ n 1,zI,val,val]
  have e1:si 1 (fun j=>(65536:Int) ^ j * ((aW (a :: b :: ns)).getD (2 * j) 0+256 * (aW (a :: b :: ns)).getD (2 * j+1) 0))=(a:Int)+256 * (b:Int):=by simp [si,aW]
  have e2:si n (fun i=>(65536:Int) ^ (1+i) * ((aW (a :: b :: ns)).getD (2 * (1+i)) 0+256 * (aW (a :: b :: ns)).getD (2 * (1+i)+1) 0))=65536 * (val 256 ns:Int):=by
   rw [← ih,← EK]
   refine iC _ _ _ fun i _=>?_
   rw [show 2 * (1+i)=2 * i+1+1 by omega,show 2 * i+1+1+1=(2 * i+1)+1+1 by omega]
   simp only [bG,acH]
   rw [acJ 1 i,acI]
   grind
  rw [e1,e2]
  omega
theorem ins_el (ns:List Nat) (hl:ns.length=32) (hb:∀ n∈ns,n < 256):El (ins (aW ns) 16) (val 256 ns % p):=by
 refine ⟨dU _ _,?_,?_⟩
 ·refine zo _ _ _ fun i hi=>?_
  have h1:=dx hb (by decide) (2 * i)
  have h2:=dx hb (by decide) (2 * i+1)
  rw [if_pos hi,bG,bG]
  omega
 ·have e:=He 16 ns hl
  rw [ins,wV,iC 16 _ (fun j=>(65536:Int) ^ j * ((aW ns).getD (2 * j) 0+256 * (aW ns).getD (2 * j+1) 0)) (fun i hi=>by rw [if_pos hi]),e]
  exact (acS _ _).symm
theorem Tg {xs:List Int} {a:Nat} (h:El xs a):jZ 0 (carry (carry (carry (carry xs))))∧vi (carry (carry (carry (carry xs)))) % (p:Int)=(a:Int):=by
 have n1:jZ (38 * 17) (carry xs):=kZ xs 1048576 17 (bT xs 1048576 h.2.1 (by decide)) (by decide) (by decide)
 have n2:jZ 38 (carry (carry xs)):=qz _ _ n1 (by decide) (by decide)
 have n3:=qA _ n2
 refine ⟨qA _ (Sg n3 (by decide)),?_⟩
 rw [jg _ n3.1,jg _ n2.1,jg _ n1.1,jg _ h.1,h.2.2]
theorem Jf (n:Nat) (hn:n≤1048576):El ((acE 16 (0:Int)).set 0 n) n:=by
 have hp:n < p:=Nat.lt_of_le_of_lt hn (by decide +kernel)
 refine ⟨by simp,?_,?_⟩
 ·intro x hx
  rcases acU hx with h|rfl
  ·have:=List.eq_of_mem_replicate h
   omega
  ·omega
 ·rw [U7 _ _ _ (by simp)]
  have e:vi (acE 16 (0:Int))=0:=by decide
  rw [e]
  simp only [List.getD_eq_getElem?_getD]
  have:((acE 16 (0:Int))[0]?.getD 0)=0:=by decide
  rw [this]
  simp only [Int.pow_zero,Int.sub_zero,Int.one_mul,Int.zero_add]
  rw [← acS,acG hp]
theorem FH:El (acE 16 (0:Int)) 0:=by
 have:=Jf 0 (by decide)
 exact this
end Go.Proofs.YthdgbgleklkaiaaDoor.Rd
