/- The document's numbers modulo p, sixteen digits to the base 65536, in plain words. Condition: as each theorem says. -/
import Derived.Test.YtodnkallpfkdiaaDoorFa
import Derived.Test.YtodnkallpfkdiaaDoorMa
import Derived.Lib.AppendStr
import Derived.Lib.ConvBytes
set_option maxRecDepth 100000
set_option maxHeartbeats 16000000
set_option linter.unusedSimpArgs false
set_option linter.unusedVariables false
namespace Go.Proofs.YtodnkallpfkdiaaDoor.Rd
open Go.RowKit Lm Fp
/-! ### Rows of integers by a rule -/
def tb (n:Nat) (f:Nat→Int):List Int:=(List.range n).map f
theorem tb_len (n:Nat) (f:Nat→Int):(tb n f).length=n:=by simp [tb]
theorem tb_get (n:Nat) (f:Nat→Int) (i:Nat) (h:i < n):(tb n f).getD i 0=f i:=by simp [tb,List.getD,h]
theorem tb_set (n:Nat) (f:Nat→Int) (j:Nat) (x:Int):(tb n f).set j x=tb n (fun i=>if i=j then x else f i):=by
 apply List.ext_getElem
 ·simp [tb]
 ·intro i h1 h2
  simp only [tb,List.getElem_set,List.getElem_map,List.getElem_range]
  by_cases e:j=i
  ·rw [if_pos e,if_pos e.symm]
  ·rw [if_neg e,if_neg (fun h=>e h.symm)]
theorem tb_congr (n:Nat) (f g:Nat→Int) (h:∀ i,i < n→f i=g i):tb n f=tb n g:=by
 apply List.map_congr_left
 intro i hi
 exact h i (by simpa using hi)
theorem tb_of (n:Nat) (xs:List Int) (h:xs.length=n):xs=tb n (fun i=>xs.getD i 0):=by
 apply List.ext_getElem
 ·rw [tb_len,h]
 ·intro i h1 h2
  simp [tb,List.getD,h1]
theorem tb_mem (n:Nat) (f:Nat→Int) (P:Int→Prop) (h:∀ i,i < n→P (f i)):∀ x∈tb n f,P x:=by
 intro x hx
 simp only [tb,List.mem_map,List.mem_range] at hx
 obtain ⟨i,hi,rfl⟩:=hx
 exact h i hi
theorem tb_zero (n:Nat):List.replicate n 0=tb n (fun _=>0):=by
 apply List.ext_getElem <;> simp [tb]
def si:Nat→(Nat→Int)→Int
 | 0,_=>0
 | n+1,f=>si n f+f n
theorem si_congr (n:Nat) (f g:Nat→Int) (h:∀ i,i < n→f i=g i):si n f=si n g:=by
 induction n with
 | zero=>rfl
 | succ n ih=>rw [si,si,ih (fun i hi=>h i (by omega)),h n (by omega)]
theorem si_add (n:Nat) (f g:Nat→Int):si n (fun i=>f i+g i)=si n f+si n g:=by
 induction n with
 | zero=>rfl
 | succ n ih=>rw [si,si,si,ih];omega
theorem si_sub (n:Nat) (f g:Nat→Int):si n (fun i=>f i - g i)=si n f - si n g:=by
 induction n with
 | zero=>rfl
 | succ n ih=>rw [si,si,si,ih];omega
theorem si_mul (n:Nat) (c:Int) (f:Nat→Int):si n (fun i=>c * f i)=c * si n f:=by
 induction n with
 | zero=>simp [si]
 | succ n ih=>rw [si,si,ih,Int.mul_add]
theorem si_split (n m:Nat) (f:Nat→Int):si (n+m) f=si n f+si m (fun i=>f (n+i)):=by
 induction m with
 | zero=>simp [si]
 | succ m ih=>rw [Nat.add_succ,si,si,ih];omega
/-- What a row of digits is worth. -/
def vi (xs:List Int):Int:=si xs.length (fun i=>65536 ^ i * xs.getD i 0)
theorem vi_tb (n:Nat) (f:Nat→Int):vi (tb n f)=si n (fun i=>65536 ^ i * f i):=by
 unfold vi
 rw [tb_len]
 exact si_congr _ _ _ fun i hi=>by rw [tb_get _ _ _ hi]
theorem si_set (n i:Nat) (f:Nat→Int) (v:Int) (hi:i < n):si n (fun k=>if k=i then v else f k)=si n f - f i+v:=by
 induction n with
 | zero=>omega
 | succ n ih =>
  rw [si,si]
  by_cases e:i=n
  ·subst e
   rw [if_pos rfl,si_congr i _ f (fun k hk=>by rw [if_neg (by omega)])]
   omega
  ·rw [ih (by omega),if_neg (by omega)]
   omega
theorem vi_set (xs:List Int) (i:Nat) (v:Int) (hi:i < xs.length):vi (xs.set i v)=vi xs+65536 ^ i * (v - xs.getD i 0):=by
 rw [tb_of xs.length xs rfl,tb_set,vi_tb,vi_tb,tb_get _ _ _ hi]
 have:=si_set xs.length i (fun k=>65536 ^ k * xs.getD k 0) (65536 ^ i * v) hi
 rw [si_congr _ (fun k=>65536 ^ k * if k=i then v else xs.getD k 0) (fun k=>if k=i then 65536 ^ i * v else 65536 ^ k * xs.getD k 0) (fun k _=>by by_cases e:k=i <;> simp [e]),this,Int.mul_sub]
 omega
/-! ### A pass of carrying -/
/-- What is carried into a place. -/
def cr (xs:List Int):Nat→Int
 | 0=>0
 | j+1=>(xs.getD j 0+cr xs j) / 65536
def mid (xs:List Int) (i:Nat):List Int:=tb 16 fun j=>if j < i then (xs.getD j 0+cr xs j) % 65536 else if j=i then xs.getD j 0+cr xs j else xs.getD j 0
def carry (xs:List Int):List Int:=tb 16 fun j=>(xs.getD j 0+cr xs j) % 65536+if j=0 then 38 * cr xs 16 else 0
theorem mid_zero (xs:List Int) (h:xs.length=16):mid xs 0=xs:=by
 refine Eq.trans (tb_congr _ _ _ fun i _=>?_) (tb_of 16 xs h).symm
 rw [if_neg (by omega)]
 by_cases e:i=0
 ·subst e;rw [if_pos rfl,cr];omega
 ·rw [if_neg e]
theorem mid_get (xs:List Int) (i:Nat) (h:i < 16):(mid xs i).getD i 0=xs.getD i 0+cr xs i:=by
 rw [mid,tb_get _ _ _ h,if_neg (by omega),if_pos rfl]
theorem mid_next (xs:List Int) (i j:Nat) (h:j < 16) (hi:i < j):(mid xs i).getD j 0=xs.getD j 0:=by
 rw [mid,tb_get _ _ _ h,if_neg (by omega),if_neg (by omega)]
theorem mid_step (xs:List Int) (i:Nat) (x:Int) (h:i < 15) (hx:xs.getD i 0+cr xs i=x) :
  ((mid xs i).set i (x % 65536)).set (i+1) (xs.getD (i+1) 0+x / 65536)=mid xs (i+1):=by
 subst hx
 rw [mid,tb_set,tb_set]
 refine tb_congr _ _ _ fun j hj=>?_
 by_cases e:j=i+1
 ·subst e
  rw [if_pos rfl,if_neg (by omega),if_pos rfl]
  rfl
 ·rw [if_neg e]
  by_cases e2:j=i
  ·subst e2;rw [if_pos rfl,if_pos (by omega)]
  ·rw [if_neg e2]
   by_cases e3:j < i
   ·rw [if_pos e3,if_pos (by omega)]
   ·rw [if_neg e3,if_neg e2,if_neg (by omega),if_neg e]
theorem mid_first (xs:List Int):((mid xs 15).set 15 ((xs.getD 15 0+cr xs 15) % 65536)).getD 0 0=(xs.getD 0 0+cr xs 0) % 65536:=by
 rw [mid,tb_set,tb_get _ _ _ (by omega),if_neg (by omega),if_pos (by omega)]
theorem mid_end (xs:List Int) (x:Int) (hx:xs.getD 15 0+cr xs 15=x) :
  ((mid xs 15).set 15 (x % 65536)).set 0 ((xs.getD 0 0+cr xs 0) % 65536+38 * (x / 65536))=carry xs:=by
 subst hx
 rw [mid,tb_set,tb_set]
 refine tb_congr _ _ _ fun j hj=>?_
 by_cases e:j=0
 ·subst e
  rw [if_pos rfl,if_pos rfl]
  rfl
 ·rw [if_neg e,if_neg e]
  by_cases e2:j=15
  ·subst e2;rw [if_pos rfl];omega
  ·rw [if_neg e2,if_pos (by omega)];omega
theorem carry_len (xs:List Int):(carry xs).length=16:=tb_len _ _
theorem tele (xs:List Int) (n:Nat):si n (fun j=>65536 ^ j * ((xs.getD j 0+cr xs j) % 65536))=si n (fun j=>65536 ^ j * xs.getD j 0) - 65536 ^ n * cr xs n:=by
 induction n with
 | zero=>simp [si,cr]
 | succ n ih =>
  rw [si,si,ih,cr]
  have:=Int.emod_add_mul_ediv (xs.getD n 0+cr xs n) 65536
  generalize (xs.getD n 0+cr xs n) / 65536=d at this ⊢
  generalize (xs.getD n 0+cr xs n) % 65536=r at this ⊢
  have e:(65536:Int) ^ (n+1)=65536 ^ n * 65536:=Int.pow_succ _ _
  have e2:(65536:Int) ^ n * (r+65536 * d)=65536 ^ n * (xs.getD n 0+cr xs n):=by rw [this]
  rw [e]
  grind
theorem vi_carry (xs:List Int) (h:xs.length=16):vi (carry xs)=vi xs - (65536 ^ 16 - 38) * cr xs 16:=by
 have e:vi xs=si 16 (fun j=>65536 ^ j * xs.getD j 0):=by unfold vi;rw [h]
 rw [e,carry,vi_tb]
 have e1:si 16 (fun i=>65536 ^ i * ((xs.getD i 0+cr xs i) % 65536+if i=0 then 38 * cr xs 16 else 0))=si 16 (fun i=>65536 ^ i * ((xs.getD i 0+cr xs i) % 65536))+si 16 (fun i=>if i=0 then 38 * cr xs 16 else 0):=by
  rw [← si_add]
  refine si_congr _ _ _ fun i _=>?_
  by_cases e:i=0
  ·subst e;simp
  ·simp [e]
 rw [e1,tele]
 have e2:si 16 (fun i=>if i=0 then 38 * cr xs 16 else 0)=38 * cr xs 16:=by
  rw [si_set 16 0 (fun _=>0) _ (by decide)]
  have:si 16 (fun _=>(0:Int))=0:=by decide
  rw [this];omega
 rw [e2,Int.sub_mul]
 omega
theorem cr_bound (xs:List Int) (M C:Int) (hM:∀ j, -M≤xs.getD j 0∧xs.getD j 0≤M) (hC:M+C≤65536 * C) (h0:0≤C):∀ j, -C≤cr xs j∧cr xs j≤C
 | 0=>by rw [cr];omega
 | j+1=>by
  have ih:=cr_bound xs M C hM hC h0 j
  have:=hM j
  rw [cr]
  omega
theorem getD_bound (xs:List Int) (M:Int) (h:∀ x∈xs, -M≤x∧x≤M) (h0:0≤M) (j:Nat) : -M≤xs.getD j 0∧xs.getD j 0≤M:=by
 simp only [List.getD]
 cases e:xs[j]? with
 | none=>simp;omega
 | some y=>simpa using h y (List.mem_of_getElem? e)
/-- All digits but the first are digits; the first is at most D away. -/
def Near (D:Int) (xs:List Int):Prop:=xs.length=16∧(-D≤xs.getD 0 0∧xs.getD 0 0≤65535+D)∧∀ j,0≤xs.getD (j+1) 0∧xs.getD (j+1) 0≤65535
theorem tb_out (n:Nat) (f:Nat→Int) (j:Nat) (h:n≤j):(tb n f).getD j 0=0:=by
 simp only [List.getD]
 rw [List.getElem?_eq_none (by rw [tb_len];exact h)]
 rfl
theorem carry_near (xs:List Int) (C:Int) (h : -C≤cr xs 16∧cr xs 16≤C):Near (38 * C) (carry xs):=by
 refine ⟨carry_len xs,?_,fun j=>?_⟩
 ·rw [carry,tb_get _ _ _ (by decide),if_pos rfl]
  omega
 ·rw [carry]
  rcases Nat.lt_or_ge (j+1) 16 with hj|hj
  ·rw [tb_get _ _ _ hj,if_neg (by omega)]
   omega
  ·rw [tb_out _ _ _ hj]
   omega
theorem carry_any (xs:List Int) (M C:Int) (hM:∀ j, -M≤xs.getD j 0∧xs.getD j 0≤M) (hC:M+C≤65536 * C) (h0:0≤C):Near (38 * C) (carry xs):=carry_near xs C (cr_bound xs M C hM hC h0 16)
/-- What a second pass carries. -/
theorem cr_near (xs:List Int) (D:Int) (h:Near D xs) (h0:0≤D) (h1:D≤1099511627776):∀ j,3≤j → -1≤cr xs j∧cr xs j≤1:=by
 obtain ⟨_,h2,h3⟩:=h
 have c1:cr xs 1=(xs.getD 0 0+0) / 65536:=rfl
 have c2:cr xs 2=(xs.getD 1 0+cr xs 1) / 65536:=rfl
 have q1:=h3 0
 intro j hj
 induction j with
 | zero=>omega
 | succ j ih =>
  have qj:=h3 (j - 1)
  rcases Nat.lt_or_ge j 3 with hlt|hge
  ·obtain rfl:j=2:=by omega
   rw [show (2 - 1+1:Nat)=2 from rfl] at qj
   rw [show (0+1:Nat)=1 from rfl] at q1
   rw [cr]
   omega
  ·have:=ih hge
   rw [show j - 1+1=j by omega] at qj
   rw [cr]
   omega
theorem carry_twice (xs:List Int) (D:Int) (h:Near D xs) (h0:0≤D) (h1:D≤1099511627776):Near 38 (carry xs):=carry_near xs 1 (cr_near xs D h h0 h1 16 (by decide))
theorem near_mem {D:Int} {xs:List Int} (h:Near D xs) (h0:0≤D):∀ x∈xs, -D≤x∧x≤65535+D:=by
 intro x hx
 obtain ⟨i,hi,rfl⟩:=List.getElem_of_mem hx
 have e:xs[i]=xs.getD i 0:=by simp [List.getD,hi]
 rw [e]
 cases i with
 | zero=>exact h.2.1
 | succ i=>have:=h.2.2 i;omega
/-- A third pass leaves digits. -/
theorem carry_third (xs:List Int) (h:Near 38 xs):Near 0 (carry xs):=by
 have key:∀ j,cr xs (j+1)=0∨(cr xs (j+1) = -1∧xs.getD 0 0 < 0)∨(cr xs (j+1)=1∧65536≤xs.getD 0 0):=by
  intro j
  induction j with
  | zero =>
   have c1:cr xs (0+1)=(xs.getD 0 0+0) / 65536:=rfl
   have:=h.2.1
   rw [c1]
   omega
  | succ j ih =>
   have c1:cr xs (j+1+1)=(xs.getD (j+1) 0+cr xs (j+1)) / 65536:=rfl
   have:=h.2.2 j
   rw [c1]
   omega
 have k16:=key 15
 have hf:=h.2.1
 refine ⟨carry_len xs,?_,fun j=>?_⟩
 ·rw [carry,tb_get _ _ _ (by decide),if_pos rfl,cr]
  rw [show (15+1:Nat)=16 from rfl] at k16
  omega
 ·have:=(carry_near xs 1 (by rw [show (15+1:Nat)=16 from rfl] at k16;omega)).2.2 j
  exact this
theorem near_mono {D E:Int} {xs:List Int} (h:Near D xs) (hd:D≤E):Near E xs:=⟨h.1,⟨by have:=h.2.1;omega,by have:=h.2.1;omega⟩,h.2.2⟩
/-! ### Numbers modulo p -/
/-- The row xs stands for the number a below p. -/
def El (xs:List Int) (a:Nat):Prop:=xs.length=16∧(∀ x∈xs, -1048576≤x∧x≤1048576)∧vi xs % (p:Int)=(a:Int)
theorem pz:(0:Int) < (p:Int):=by decide +kernel
theorem El.lt {xs:List Int} {a:Nat} (h:El xs a):a < p:=by
 have h1:=Int.emod_lt_of_pos (vi xs) pz
 rw [h.2.2] at h1
 omega
theorem top_p:(65536:Int) ^ 16 - 38=(p:Int) * 2:=by decide +kernel
theorem emod_sub_mul (x k:Int):(x - (p:Int) * k) % (p:Int)=x % (p:Int):=by
 rw [show x - (p:Int) * k=x+(p:Int) * (-k) by grind,Int.add_mul_emod_self_left]
theorem carry_mod (xs:List Int) (h:xs.length=16):vi (carry xs) % (p:Int)=vi xs % (p:Int):=by
 rw [vi_carry xs h,top_p,Int.mul_assoc,emod_sub_mul]
theorem near_el {D:Int} {xs:List Int} (h:Near D xs) (h0:0≤D) (h1:D≤900000) (a:Nat) (ha:vi xs % (p:Int)=(a:Int)):El xs a :=
 ⟨h.1,fun x hx=>by have:=near_mem h h0 x hx;omega,ha⟩
theorem vi_len (n:Nat) (xs:List Int) (h:xs.length=n):vi xs=si n (fun i=>65536 ^ i * xs.getD i 0):=by unfold vi;rw [h]
def sumr (xs ys:List Int):List Int:=tb 16 fun i=>xs.getD i 0+ys.getD i 0
def difr (xs ys:List Int):List Int:=tb 16 fun i=>xs.getD i 0 - ys.getD i 0
theorem vi_sumr (xs ys:List Int) (hx:xs.length=16) (hy:ys.length=16):vi (sumr xs ys)=vi xs+vi ys:=by
 rw [sumr,vi_tb,vi_len 16 xs hx,vi_len 16 ys hy,← si_add]
 exact si_congr _ _ _ fun i _=>Int.mul_add _ _ _
theorem vi_difr (xs ys:List Int) (hx:xs.length=16) (hy:ys.length=16):vi (difr xs ys)=vi xs - vi ys:=by
 rw [difr,vi_tb,vi_len 16 xs hx,vi_len 16 ys hy,← si_sub]
 exact si_congr _ _ _ fun i _=>Int.mul_sub _ _ _
theorem tb_bound (n:Nat) (f:Nat→Int) (M:Int) (h:∀ i,i < n → -M≤f i∧f i≤M) (h0:0≤M) (j:Nat) : -M≤(tb n f).getD j 0∧(tb n f).getD j 0≤M :=
 getD_bound _ M (tb_mem n f (fun x => -M≤x∧x≤M) h) h0 j
theorem nat_mod (z:Int) (a:Nat) (h:z % (p:Int)=((a:Nat):Int) % (p:Int)):z % (p:Int)=((a % p:Nat):Int):=by rw [h];exact (Int.natCast_emod a p).symm
theorem El.add {xs ys:List Int} {a b:Nat} (hx:El xs a) (hy:El ys b):El (carry (sumr xs ys)) (fadd a b):=by
 refine near_el (D:=38 * 33) (carry_any _ 2097152 33 (tb_bound _ _ _ (fun i _=>?_) (by decide)) (by decide) (by decide)) (by decide) (by decide) _ ?_
 ·have h1:=getD_bound xs 1048576 hx.2.1 (by decide) i
  have h2:=getD_bound ys 1048576 hy.2.1 (by decide) i
  omega
 ·show vi (carry (sumr xs ys)) % (p:Int)=_
  rw [carry_mod _ (show (sumr xs ys).length=16 from tb_len _ _),vi_sumr _ _ hx.1 hy.1]
  refine nat_mod _ _ ?_
  rw [Int.add_emod,hx.2.2,hy.2.2,Int.natCast_add]
theorem El.sub {xs ys:List Int} {a b:Nat} (hx:El xs a) (hy:El ys b):El (carry (difr xs ys)) (fsub a b):=by
 refine near_el (D:=38 * 33) (carry_any _ 2097152 33 (tb_bound _ _ _ (fun i _=>?_) (by decide)) (by decide) (by decide)) (by decide) (by decide) _ ?_
 ·have h1:=getD_bound xs 1048576 hx.2.1 (by decide) i
  have h2:=getD_bound ys 1048576 hy.2.1 (by decide) i
  omega
 ·show vi (carry (difr xs ys)) % (p:Int)=_
  rw [carry_mod _ (show (difr xs ys).length=16 from tb_len _ _),vi_difr _ _ hx.1 hy.1]
  refine nat_mod _ _ ?_
  have hb:=hy.lt
  rw [Int.sub_emod,hx.2.2,hy.2.2,show ((a+p - b:Nat):Int)=((a:Int) - (b:Int))+(p:Int) * 1 by omega,Int.add_mul_emod_self_left]
/-! ### Products -/
def foldr (ts:List Int):List Int:=tb 16 fun i=>if i < 15 then ts.getD i 0+38 * ts.getD (i+16) 0 else ts.getD i 0
theorem foldr_mod (ts:List Int) (h:ts.length=31):vi (foldr ts) % (p:Int)=vi ts % (p:Int):=by
 have e1:vi (foldr ts)=si 16 (fun i=>65536 ^ i * ts.getD i 0)+38 * si 15 (fun i=>65536 ^ i * ts.getD (i+16) 0):=by
  have a1:si 16 (fun i=>65536 ^ i * ts.getD i 0)=si 15 (fun i=>65536 ^ i * ts.getD i 0)+65536 ^ 15 * ts.getD 15 0:=rfl
  have a2:si 16 (fun i=>65536 ^ i * (if i < 15 then ts.getD i 0+38 * ts.getD (i+16) 0 else ts.getD i 0))=si 15 (fun i=>65536 ^ i * (if i < 15 then ts.getD i 0+38 * ts.getD (i+16) 0 else ts.getD i 0))+65536 ^ 15 * ts.getD 15 0:=rfl
  rw [foldr,vi_tb,a1,a2,← si_mul,si_congr 15 (fun i=>65536 ^ i * (if i < 15 then ts.getD i 0+38 * ts.getD (i+16) 0 else ts.getD i 0)) (fun i=>65536 ^ i * ts.getD i 0+38 * (65536 ^ i * ts.getD (i+16) 0)) (fun i hi=>by rw [if_pos hi];grind),si_add]
  omega
 have e2:vi ts=si 16 (fun i=>65536 ^ i * ts.getD i 0)+65536 ^ 16 * si 15 (fun i=>65536 ^ i * ts.getD (i+16) 0):=by
  rw [vi_len 31 ts h,show 31=16+15 from rfl,si_split,← si_mul]
  congr 1
  refine si_congr _ _ _ fun i _=>?_
  rw [Int.pow_add,Nat.add_comm 16 i]
  grind
 generalize si 15 (fun i=>65536 ^ i * ts.getD (i+16) 0)=H at e1 e2
 have e3:=emod_sub_mul (vi ts) (2 * H)
 rw [show vi ts - (p:Int) * (2 * H)=vi (foldr ts) by rw [← Int.mul_assoc,← top_p,e1,e2];grind] at e3
 exact e3
theorem El.mul {xs ys ts:List Int} {a b:Nat} (hx:El xs a) (hy:El ys b) (hl:ts.length=31) (hb:∀ j, -17592186044416≤ts.getD j 0∧ts.getD j 0≤17592186044416) (hv:vi ts=vi xs * vi ys) :
  El (carry (carry (foldr ts))) (fmul a b):=by
 have n1:Near (38 * 17180200000) (carry (foldr ts)):=carry_any _ 1125899906842624 17180200000 (tb_bound _ _ _ (fun i _=>by
  have h1:=hb i
  have h2:=hb (i+16)
  split <;> omega) (by decide)) (by decide) (by decide)
 refine near_el (D:=38) (carry_twice _ _ n1 (by decide) (by decide)) (by decide) (by decide) _ ?_
 rw [carry_mod _ n1.1,carry_mod _ (show (foldr ts).length=16 from tb_len _ _),foldr_mod _ hl,hv]
 refine nat_mod _ _ ?_
 rw [Int.mul_emod,hx.2.2,hy.2.2,Int.natCast_mul]
/-- One step of a product. -/
theorem prod_step (xs ys ts:List Int) (i k:Nat) (hi:i < 16) (hk:k < 16) (ht:ts.length=31) (V:Int) (hV:vi ts=V+65536 ^ i * xs.getD i 0 * si k (fun j=>65536 ^ j * ys.getD j 0)) :
  vi (ts.set (i+k) (ts.getD (i+k) 0+xs.getD i 0 * ys.getD k 0))=V+65536 ^ i * xs.getD i 0 * si (k+1) (fun j=>65536 ^ j * ys.getD j 0):=by
 rw [vi_set _ _ _ (by omega),hV,si,Int.pow_add]
 grind
theorem prod_bound (xs ys ts:List Int) (i k:Nat) (hx:∀ j, -1048576≤xs.getD j 0∧xs.getD j 0≤1048576) (hy:∀ j, -1048576≤ys.getD j 0∧ys.getD j 0≤1048576) (hi:i < 16) (hk:k < 16) (ht:ts.length=31)
  (hb:∀ n, -(1099511627776 * ((i:Int)+if i≤n∧n < i+k then 1 else 0))≤ts.getD n 0∧ts.getD n 0≤1099511627776 * ((i:Int)+if i≤n∧n < i+k then 1 else 0)) :
  (∀ n, -(1099511627776 * ((i:Int)+if i≤n∧n < i+(k+1) then 1 else 0))≤(ts.set (i+k) (ts.getD (i+k) 0+xs.getD i 0 * ys.getD k 0)).getD n 0∧(ts.set (i+k) (ts.getD (i+k) 0+xs.getD i 0 * ys.getD k 0)).getD n 0≤1099511627776 * ((i:Int)+if i≤n∧n < i+(k+1) then 1 else 0)):=by
 intro n
 have hp : -1099511627776≤xs.getD i 0 * ys.getD k 0∧xs.getD i 0 * ys.getD k 0≤1099511627776:=by
  have h1:=hx i
  have h2:=hy k
  generalize xs.getD i 0=x at h1
  generalize ys.getD k 0=y at h2
  have e:=Int.natAbs_mul x y
  have a1:x.natAbs≤1048576:=by omega
  have a2:y.natAbs≤1048576:=by omega
  have:=Nat.mul_le_mul a1 a2
  omega
 by_cases e:n=i+k
 ·subst e
  have h:=hb (i+k)
  have eg:(ts.set (i+k) (ts.getD (i+k) 0+xs.getD i 0 * ys.getD k 0)).getD (i+k) 0=ts.getD (i+k) 0+xs.getD i 0 * ys.getD k 0:=by
   simp [List.getD,show i+k < ts.length by omega]
  rw [eg]
  rw [if_neg (by omega)] at h
  rw [if_pos (by omega)]
  omega
 ·have h:=hb n
  have eg:(ts.set (i+k) (ts.getD (i+k) 0+xs.getD i 0 * ys.getD k 0)).getD n 0=ts.getD n 0:=by
   simp only [List.getD]
   rw [List.getElem?_set_ne (fun e'=>e e'.symm)]
  rw [eg]
  by_cases e2:i≤n∧n < i+k
  ·rw [if_pos e2] at h
   rw [if_pos (by omega)]
   exact h
  ·rw [if_neg e2] at h
   rw [if_neg (by omega)]
   exact h
end Go.Proofs.YtodnkallpfkdiaaDoor.Rd
namespace Go.Proofs.YtodnkallpfkdiaaDoor.Rd
open Go.RowKit Lm Fp
theorem vi_nar (ns:List Nat):vi (nar ns)=(val 65536 ns:Int):=by
 induction ns with
 | nil=>rfl
 | cons n ns ih =>
  have e1:vi (nar (n :: ns))=(n:Int)+65536 * vi (nar ns):=by
   rw [vi_len (1+ns.length) (nar (n :: ns)) (by simp [nar];omega),si_split,vi_len ns.length (nar ns) (by simp [nar]),← si_mul]
   have:si 1 (fun i=>(65536:Int) ^ i * (nar (n :: ns)).getD i 0)=n:=by simp [si,nar]
   rw [this]
   congr 1
   refine si_congr _ _ _ fun i _=>?_
   rw [nar_get,nar_get,Nat.add_comm 1 i,List.getD_cons_succ,Int.pow_succ]
   grind
  rw [e1,ih,val]
  omega
theorem near0_nar {xs:List Int} (h:Near 0 xs):∃ ns:List Nat,xs=nar ns∧ns.length=16∧(∀ n∈ns,n < 65536):=by
 have hm:=near_mem h (by decide)
 refine ⟨xs.map Int.toNat,(nar_of xs fun x hx=>by have:=hm x hx;omega).symm,by simpa using h.1,fun n hn=>?_⟩
 obtain ⟨x,hx,rfl⟩:=List.mem_map.1 hn
 have:=hm x hx
 omega
/-- Digits that are digits are those of their number. -/
theorem near0_dig {xs:List Int} (h:Near 0 xs) (V:Nat) (hv:vi xs=V):xs=nar (dig 65536 16 V)∧V < 65536 ^ 16:=by
 obtain ⟨ns,rfl,hl,hb⟩:=near0_nar h
 rw [vi_nar] at hv
 have hv':val 65536 ns=V:=by omega
 refine ⟨by rw [← dig_eq 65536 (by decide) 16 V ns hl hb hv'],?_⟩
 have:=val_lt 65536 ns hb
 rw [hl,hv'] at this
 exact this
theorem near0_nat {xs:List Int} (h:Near 0 xs):∃ V:Nat,vi xs=V:=by
 obtain ⟨ns,rfl,_,_⟩:=near0_nar h
 exact ⟨_,vi_nar ns⟩
/-! ### p is taken off -/
def P16:List Int:=[65517,65535,65535,65535,65535,65535,65535,65535,65535,65535,65535,65535,65535,65535,65535,32767]
theorem vi_P:vi P16=(p:Int):=by decide +kernel
def sb (ds:List Int) (i:Nat):List Int:=tb 16 fun j=>if j+1 < i then (ds.getD j 0+cr ds j) % 65536 else if j+1=i then ds.getD j 0+cr ds j else 0
theorem sb_one (ds:List Int):(List.replicate 16 (0:Int)).set 0 (ds.getD 0 0)=sb ds 1:=by
 rw [tb_zero,tb_set]
 refine tb_congr _ _ _ fun j _=>?_
 by_cases e:j=0
 ·subst e;rw [if_pos rfl,if_neg (by omega),if_pos rfl,cr];omega
 ·rw [if_neg e,if_neg (by omega),if_neg (by omega)]
theorem sb_get (ds:List Int) (i:Nat) (h:i < 16):(sb ds (i+1)).getD i 0=ds.getD i 0+cr ds i:=by
 rw [sb,tb_get _ _ _ h,if_neg (by omega),if_pos rfl]
theorem sb_step (ds:List Int) (i:Nat) (x:Int) (_h:i < 15) (hx:ds.getD i 0+cr ds i=x) :
  ((sb ds (i+1)).set (i+1) (ds.getD (i+1) 0+x / 65536)).set i (x % 65536)=sb ds (i+2):=by
 subst hx
 rw [sb,tb_set,tb_set]
 refine tb_congr _ _ _ fun j hj=>?_
 by_cases e:j=i
 ·subst e
  rw [if_pos rfl,if_pos (by omega)]
 ·rw [if_neg e]
  by_cases e2:j=i+1
  ·subst e2
   rw [if_pos rfl,if_neg (by omega),if_pos (by omega)]
   rfl
  ·rw [if_neg e2]
   by_cases e3:j < i
   ·rw [if_pos (by omega),if_pos (by omega)]
   ·rw [if_neg (by omega),if_neg (by omega),if_neg (by omega),if_neg (by omega)]
theorem sb_set_get (ds:List Int) (i:Nat) (y:Int) (h:i < 15):((sb ds (i+1)).set (i+1) y).getD i 0=ds.getD i 0+cr ds i:=by
 rw [sb,tb_set,tb_get _ _ _ (by omega),if_neg (by omega),if_neg (by omega),if_pos rfl]
theorem sb_last (ds:List Int):sb ds 16=mid ds 15:=by
 refine tb_congr _ _ _ fun j hj=>?_
 by_cases e:j < 15
 ·rw [if_pos (by omega),if_pos e]
 ·rw [if_neg (by omega),if_neg e,if_pos (by omega),if_pos (by omega)]
/-- What is there less p. -/
def dsub (us:List Int):List Int:=difr us P16
theorem dsub_get (us:List Int) (j:Nat) (hj:j < 16):(dsub us).getD j 0=us.getD j 0 - P16.getD j 0:=by rw [dsub,difr,tb_get _ _ _ hj]
theorem P16_get (j:Nat) (h:0 < j) (h2:j < 15):P16.getD j 0=65535:=by
 match j,h,h2 with
 | 1,_,_|2,_,_|3,_,_|4,_,_|5,_,_|6,_,_|7,_,_|8,_,_|9,_,_|10,_,_|11,_,_|12,_,_|13,_,_|14,_,_=>rfl
theorem P16_bound (j:Nat):0≤P16.getD j 0∧P16.getD j 0≤65535:=by
 simp only [List.getD]
 cases e:P16[j]? with
 | none=>simp
 | some y =>
  have h:∀ x∈P16,0≤x∧x≤65535:=by decide
  simpa using h y (List.mem_of_getElem? e)
theorem near0_get {us:List Int} (h:Near 0 us) (j:Nat):0≤us.getD j 0∧us.getD j 0≤65535:=by
 cases j with
 | zero=>have:=h.2.1;omega
 | succ j=>exact h.2.2 j
theorem dsub_cr {us:List Int} (h:Near 0 us):∀ j,j≤16 → -1≤cr (dsub us) j∧cr (dsub us) j≤0
 | 0,_=>by rw [cr];omega
 | j+1,hj=>by
  have ih:=dsub_cr h j (by omega)
  have h1:=near0_get h j
  have h2:=P16_bound j
  rw [cr,dsub_get us j (by omega)]
  omega
theorem vi_mid (ds:List Int):vi (mid ds 15)=si 15 (fun j=>65536 ^ j * ((ds.getD j 0+cr ds j) % 65536))+65536 ^ 15 * (ds.getD 15 0+cr ds 15):=by
 have a1:∀ f:Nat→Int,si 16 f=si 15 f+f 15:=fun _=>rfl
 rw [mid,vi_tb,a1]
 congr 1
theorem vi_mid2 (ds:List Int) (h:ds.length=16):vi (mid ds 15)=vi ds:=by
 have a1:∀ f:Nat→Int,si 16 f=si 15 f+f 15:=fun _=>rfl
 rw [vi_mid,tele,vi_len 16 ds h,a1,Int.mul_add]
 omega
theorem si_low (f:Nat→Int) (h:∀ j,0≤f j∧f j≤65535):∀ n,0≤si n (fun j=>65536 ^ j * f j)∧si n (fun j=>65536 ^ j * f j) < 65536 ^ n
 | 0=>by simp [si]
 | n+1=>by
  have ih:=si_low f h n
  have hf:=h n
  have hp:(0:Int) < 65536 ^ n:=Int.pow_pos (by decide)
  have e1:(65536:Int) ^ n * f n≤65536 ^ n * 65535:=Int.mul_le_mul_of_nonneg_left hf.2 (by omega)
  have e2:0≤(65536:Int) ^ n * f n:=Int.mul_nonneg (by omega) hf.1
  have e3:(65536:Int) ^ (n+1)=65536 ^ n * 65536:=Int.pow_succ _ _
  rw [si]
  omega
/-- Is there enough? then it is taken off. -/
theorem sub_dec {us:List Int} (h:Near 0 us) (V:Nat) (hv:vi us=V) :
  ((dsub us).getD 15 0+cr (dsub us) 15 < 0∧V < p)∨(0≤(dsub us).getD 15 0+cr (dsub us) 15∧p≤V∧Near 0 (mid (dsub us) 15)∧vi (mid (dsub us) 15)=((V - p:Nat):Int)):=by
 have e:vi (mid (dsub us) 15)=(V:Int) - (p:Int):=by rw [vi_mid2 _ (show (dsub us).length=16 from tb_len _ _),dsub,vi_difr _ _ h.1 rfl,hv,vi_P]
 have e2:=vi_mid (dsub us)
 have e3:=si_low (fun j=>((dsub us).getD j 0+cr (dsub us) j) % 65536) (fun j=>by omega) 15
 have e4:(65536:Int) ^ 15=1766847064778384329583297500742918515827483896875618958121606201292619776:=by decide
 have h15:=near0_get h 15
 have p15:=P16_bound 15
 have c15:=dsub_cr h 15 (by decide)
 have d15:=dsub_get us 15 (by decide)
 by_cases hs:(dsub us).getD 15 0+cr (dsub us) 15 < 0
 ·refine .inl ⟨hs,?_⟩
  rw [e,e4] at e2
  rw [e4] at e3
  generalize si 15 (fun j=>65536 ^ j * (((dsub us).getD j 0+cr (dsub us) j) % 65536))=L at e2 e3
  omega
 ·refine .inr ⟨by omega,?_,⟨tb_len _ _,?_,fun j=>?_⟩,?_⟩
  ·rw [e,e4] at e2
   rw [e4] at e3
   generalize si 15 (fun j=>65536 ^ j * (((dsub us).getD j 0+cr (dsub us) j) % 65536))=L at e2 e3
   omega
  ·rw [mid,tb_get _ _ _ (by decide),if_pos (by decide)]
   omega
  ·rcases Nat.lt_or_ge (j+1) 16 with hj|hj
   ·rw [mid,tb_get _ _ _ hj]
    by_cases e5:j+1 < 15
    ·rw [if_pos e5];omega
    ·rw [if_neg e5,if_pos (by omega),show j+1=15 by omega]
     omega
   ·rw [mid,tb_out _ _ _ hj];omega
  ·rw [e]
   have:p≤V:=by
    rw [e,e4] at e2
    rw [e4] at e3
    generalize si 15 (fun j=>65536 ^ j * (((dsub us).getD j 0+cr (dsub us) j) % 65536))=L at e2 e3
    omega
   omega
/-! ### Bytes -/
def byt (us:List Int) (j:Nat):Int:=us.getD (j / 2) 0 / 256 ^ (j % 2) % 256
def outs (us:List Int) (i:Nat):List Int:=tb 32 fun j=>if j < 2 * i then byt us j else 0
theorem outs_zero (us:List Int):List.replicate 32 0=outs us 0:=by
 rw [tb_zero]
 exact tb_congr _ _ _ fun j _=>by rw [if_neg (by omega)]
theorem outs_step (us:List Int) (i:Nat) (x:Int) (hx:us.getD i 0=x):((outs us i).set (2 * i) (x % 256)).set (2 * i+1) (x / 256 % 256)=outs us (i+1):=by
 subst hx
 rw [outs,tb_set,tb_set]
 refine tb_congr _ _ _ fun j _=>?_
 by_cases e:j=2 * i+1
 ·subst e
  rw [if_pos rfl,if_pos (by omega),byt,show (2 * i+1) / 2=i by omega,show (2 * i+1) % 2=1 by omega]
  simp
 ·rw [if_neg e]
  by_cases e2:j=2 * i
  ·subst e2
   rw [if_pos rfl,if_pos (by omega),byt,show 2 * i / 2=i by omega,show 2 * i % 2=0 by omega]
   simp
  ·rw [if_neg e2]
   by_cases e3:j < 2 * i
   ·rw [if_pos e3,if_pos (by omega)]
   ·rw [if_neg e3,if_neg (by omega)]
theorem outs_all (V:Nat):outs (nar (dig 65536 16 V)) 16=nar (dig 256 32 V):=by
 rw [tb_of 32 (nar (dig 256 32 V)) (by rw [nar_len,dig_len])]
 refine tb_congr _ _ _ fun j hj=>?_
 rw [if_pos (by omega),nar_get,dig_get _ _ _ _ hj,byt,nar_get,dig_get _ _ _ _ (by omega)]
 have e:256 ^ j=65536 ^ (j / 2) * 256 ^ (j % 2):=by
  rw [show (65536:Nat)=256 ^ 2 by rfl,← Nat.pow_mul,← Nat.pow_add]
  congr 1
  omega
 rw [e,← Nat.div_div_eq_div_mul]
 generalize V / 65536 ^ (j / 2)=y
 have:j % 2=0∨j % 2=1:=by omega
 rcases this with h|h
 ·rw [h];simp only [Int.pow_zero,Nat.pow_zero,Nat.div_one,Int.ediv_one];omega
 ·rw [h];simp only [Nat.pow_one];omega
def ins (ns:List Int) (i:Nat):List Int:=tb 16 fun j=>if j < i then ns.getD (2 * j) 0+256 * ns.getD (2 * j+1) 0 else 0
theorem ins_zero (ns:List Int):List.replicate 16 0=ins ns 0:=by
 rw [tb_zero]
 exact tb_congr _ _ _ fun j _=>by rw [if_neg (by omega)]
theorem ins_step (ns:List Int) (i:Nat):(ins ns i).set i (ns.getD (2 * i) 0+256 * ns.getD (2 * i+1) 0)=ins ns (i+1):=by
 rw [ins,tb_set]
 refine tb_congr _ _ _ fun j _=>?_
 by_cases e:j=i
 ·subst e;rw [if_pos rfl,if_pos (by omega)]
 ·rw [if_neg e]
  by_cases e3:j < i
  ·rw [if_pos e3,if_pos (by omega)]
  ·rw [if_neg e3,if_neg (by omega)]
theorem vi_pairs:∀ (n:Nat) (ns:List Nat),ns.length=2 * n→si n (fun j=>(65536:Int) ^ j * ((nar ns).getD (2 * j) 0+256 * (nar ns).getD (2 * j+1) 0))=(val 256 ns:Int)
 | 0,[],_=>rfl
 | n+1,a :: b :: ns,h=>by
  have ih:=vi_pairs n ns (by simp at h;omega)
  rw [Nat.add_comm n 1,si_split,val,val]
  have e1:si 1 (fun j=>(65536:Int) ^ j * ((nar (a :: b :: ns)).getD (2 * j) 0+256 * (nar (a :: b :: ns)).getD (2 * j+1) 0))=(a:Int)+256 * (b:Int):=by simp [si,nar]
  have e2:si n (fun i=>(65536:Int) ^ (1+i) * ((nar (a :: b :: ns)).getD (2 * (1+i)) 0+256 * (nar (a :: b :: ns)).getD (2 * (1+i)+1) 0))=65536 * (val 256 ns:Int):=by
   rw [← ih,← si_mul]
   refine si_congr _ _ _ fun i _=>?_
   rw [show 2 * (1+i)=2 * i+1+1 by omega,show 2 * i+1+1+1=(2 * i+1)+1+1 by omega]
   simp only [nar_get,List.getD_cons_succ]
   rw [Nat.add_comm 1 i,Int.pow_succ]
   grind
  rw [e1,e2]
  omega
theorem ins_el (ns:List Nat) (hl:ns.length=32) (hb:∀ n∈ns,n < 256):El (ins (nar ns) 16) (val 256 ns % p):=by
 refine ⟨tb_len _ _,?_,?_⟩
 ·refine tb_mem _ _ _ fun i hi=>?_
  have h1:=lt_getD hb (by decide) (2 * i)
  have h2:=lt_getD hb (by decide) (2 * i+1)
  rw [if_pos hi,nar_get,nar_get]
  omega
 ·have e:=vi_pairs 16 ns hl
  rw [ins,vi_tb,si_congr 16 _ (fun j=>(65536:Int) ^ j * ((nar ns).getD (2 * j) 0+256 * (nar ns).getD (2 * j+1) 0)) (fun i hi=>by rw [if_pos hi]),e]
  exact (Int.natCast_emod _ _).symm
/-- Four passes make digits of a number that is the same modulo p. -/
theorem four_pass {xs:List Int} {a:Nat} (h:El xs a):Near 0 (carry (carry (carry (carry xs))))∧vi (carry (carry (carry (carry xs)))) % (p:Int)=(a:Int):=by
 have n1:Near (38 * 17) (carry xs):=carry_any xs 1048576 17 (getD_bound xs 1048576 h.2.1 (by decide)) (by decide) (by decide)
 have n2:Near 38 (carry (carry xs)):=carry_twice _ _ n1 (by decide) (by decide)
 have n3:=carry_third _ n2
 refine ⟨carry_third _ (near_mono n3 (by decide)),?_⟩
 rw [carry_mod _ n3.1,carry_mod _ n2.1,carry_mod _ n1.1,carry_mod _ h.1,h.2.2]
theorem el_small (n:Nat) (hn:n≤1048576):El ((List.replicate 16 (0:Int)).set 0 n) n:=by
 have hp:n < p:=Nat.lt_of_le_of_lt hn (by decide +kernel)
 refine ⟨by simp,?_,?_⟩
 ·intro x hx
  rcases List.mem_or_eq_of_mem_set hx with h|rfl
  ·have:=List.eq_of_mem_replicate h
   omega
  ·omega
 ·rw [vi_set _ _ _ (by simp)]
  have e:vi (List.replicate 16 (0:Int))=0:=by decide
  rw [e]
  simp only [List.getD_eq_getElem?_getD]
  have:((List.replicate 16 (0:Int))[0]?.getD 0)=0:=by decide
  rw [this]
  simp only [Int.pow_zero,Int.sub_zero,Int.one_mul,Int.zero_add]
  rw [← Int.natCast_emod,Nat.mod_eq_of_lt hp]
theorem el_zero:El (List.replicate 16 (0:Int)) 0:=by
 have:=el_small 0 (by decide)
 exact this
end Go.Proofs.YtodnkallpfkdiaaDoor.Rd
namespace Go.Proofs.YtodnkallpfkdiaaDoor.Rd
open Go.RowKit Lm Fp
theorem zero_el (w:World):(zeroValue 100).run Tryd.prog w = .ok (.agg (arr .i64 (List.replicate 16 0))) w:=by kernel_rfl
theorem size_el:(Tryd.prog.info? 100).map (·.size)=some 16:=by kernel_rfl
theorem el_s {xs:List Int} (h:xs.length=16):(Tryd.prog.info? 100).map (·.size)=some (arr .i64 xs).size:=by rw [arr_size,h];exact size_el
theorem el_i {xs:List Int} (h:xs.length=16):(Tryd.prog.info? 100).map (·.size)=some xs.length:=by rw [h];exact size_el
theorem zero_num (w:World):(zeroValue 23).run Tryd.prog w = .ok (.agg (arr .u8 (List.replicate 32 0))) w:=by kernel_rfl
theorem size_num:(Tryd.prog.info? 23).map (·.size)=some 32:=by kernel_rfl
theorem num_s {xs:List Int} (h:xs.length=32):(Tryd.prog.info? 23).map (·.size)=some (arr .u8 xs).size:=by rw [arr_size,h];exact size_num
theorem num_i {xs:List Int} (h:xs.length=32):(Tryd.prog.info? 23).map (·.size)=some xs.length:=by rw [h];exact size_num
theorem carry_code (xs:List Int) (w:World) (hl:xs.length=16) (hb:∀ x∈xs, -1152921504606846976≤x∧x≤1152921504606846976) :
  Calls Tryd.prog 141 #[.agg (arr .i64 xs)] w fun e w'=>e = .returned (.agg (arr .i64 (carry xs)))∧Below w.heap.size w w':=by
 obtain ⟨zs,hzs⟩:∃ zs:List Int,zs=List.replicate 16 0:=⟨_,rfl⟩
 have hz:∀ w,(zeroValue 100).run Tryd.prog w = .ok (.agg (arr .i64 zs)) w:=by intro w;rw [hzs];exact zero_el w
 have hzl:zs.length=16:=by rw [hzs];rfl
 have hgb:=getD_bound xs 1152921504606846976 hb (by decide)
 have hcb:=cr_bound xs 1152921504606846976 17593000000000 hgb (by decide) (by decide)
 have S0:=Blk.two w (arr .i64 xs) (arr .i64 zs) 100 100
 have HS0:=Lib.hid S0
 have HZ:=Lib.hid hz
 have HZL:=Lib.hid hzl
 have HL:=Lib.hid hl
 have HGB:=Lib.hid hgb
 have HCB:=Lib.hid hcb
 clear S0 hz hzl hzs hl hb hgb hcb
 go_enter Tryd.func141, Tryd.ntmps141
 go_wp2_with (first|((with_reducible refine aS 2 ?_);refine wpList_alloc_row rfl 100 rfl _ (HZ.out _) ?_))
 go_loopw [3] (fun v wr=>∃ i:Nat,i≤16∧v = .int .i64 i∧∃ cs:List Int,cs=(if i < 16 then mid xs i else carry xs)∧Blk w wr [(w.heap.size,arr .i64 cs, 100),(w.heap.size+1,arr .i64 zs, 100)]) (fun v _=>16 - (intOf v).toNat)
 case atStart=>exact ⟨0,Nat.zero_le _,rfl,_,by rw [if_pos (by decide),mid_zero xs HL.out],HS0.out⟩
 clear HS0
 case round =>
 obtain ⟨i,hi,rfl,cs,hcs,hB⟩:=hrel
 by_cases hlt:i < 16
 ·rw [if_pos hlt] at hcs
  have cl:cs.length=16:=by rw [hcs];exact tb_len _ _
  have q0:=arr_get' (hB.get 0 rfl) i (by rw [cl];exact hlt)
  have q3:=free_blk (hB.get 0 rfl) i
  have e0:=mid_get xs i hlt
  rw [hcs,e0] at q0
  have c0:=HCB.out i
  have g0:=HGB.out i
  by_cases h15:i < 15
  ·have q1:=arr_get' (hB.get 0 rfl) (i+1) (by rw [cl];omega)
   have q4:=free_blk (hB.get 0 rfl) (i+1)
   have e1:=mid_next xs i (i+1) (by omega) (by omega)
   rw [hcs,e1] at q1
   have st:=fun x hx=>mid_step xs i x h15 hx
   have g1:=HGB.out (i+1)
   generalize hx:xs.getD i 0+cr xs i=x at q0 st
   have st:=st x rfl
   generalize xs.getD (i+1) 0=y at q1 st g1
   have hx2 : -1152939097606846976≤x∧x≤1152939097606846976:=by omega
   have n1:x - x / 65536 * 65536=x % 65536:=by omega
   have hb1:=(hB.cell 0 rfl i (.int .i64 (x - x / 65536 * 65536))).cell 0 rfl (i+1) (.int .i64 (y+x / 65536))
   have e2:(((arr .i64 cs).setIfInBounds i (.int .i64 (x - x / 65536 * 65536))).setIfInBounds (i+1) (.int .i64 (y+x / 65536)))=arr .i64 (mid xs (i+1)):=by rw [n1,arr_set,arr_set,hcs,st]
   have HB:=Lib.hid (hb1.cast (l':=[(w.heap.size,arr .i64 (mid xs (i+1)), 100),(w.heap.size+1,arr .i64 zs, 100)]) (by rw [← e2];rfl))
   clear n1 hb1 e2 hcs hB st e0 e1 hx c0 g0
   go_wp2_with fail
   go_roundw
   case rel=>exact ⟨i+1,by omega,by go_num,_,by rw [if_pos (by omega)],HB.out⟩
   case measure=>simp [intOf];omega
  ·obtain rfl:i=15:=by omega
   have q1:=arr_get' (hB.get 0 rfl) 0 (by rw [cl];omega)
   have q4:=free_blk (hB.get 0 rfl) 0
   have st:=fun x hx=>mid_end xs x hx
   generalize hx:xs.getD 15 0+cr xs 15=x at q0 st
   have st:=st x rfl
   have ef:cs.getD 0 0=(xs.getD 0 0+cr xs 0) % 65536:=by rw [hcs,mid,tb_get _ _ _ (by decide),if_pos (by decide)]
   rw [ef] at q1
   generalize hy:(xs.getD 0 0+cr xs 0) % 65536=y at q1 st
   have hy2:0≤y∧y≤65535:=by omega
   have hx2 : -1152939097606846976≤x∧x≤1152939097606846976:=by omega
   have n1:x - x / 65536 * 65536=x % 65536:=by omega
   have hb1:=(hB.cell 0 rfl 15 (.int .i64 (x - x / 65536 * 65536))).cell 0 rfl 0 (.int .i64 (y+38 * (x / 65536)))
   have e2:(((arr .i64 cs).setIfInBounds 15 (.int .i64 (x - x / 65536 * 65536))).setIfInBounds 0 (.int .i64 (y+38 * (x / 65536))))=arr .i64 (carry xs):=by rw [n1,arr_set,arr_set,hcs,st]
   have HB:=Lib.hid (hb1.cast (l':=[(w.heap.size,arr .i64 (carry xs), 100),(w.heap.size+1,arr .i64 zs, 100)]) (by rw [← e2];rfl))
   clear n1 hb1 e2 hcs hB st e0 ef hx c0 g0 hy
   go_wp2_with fail
   go_roundw
   case rel=>exact ⟨16,by omega,by go_num,_,by rw [if_neg (by omega)],HB.out⟩
   case measure=>simp [intOf]
 ·obtain rfl:i=16:=by omega
  rw [if_neg (by decide)] at hcs
  subst hcs
  have cl:=carry_len xs
  obtain ⟨rs,hrs⟩:∃ rs,rs=carry xs:=⟨_,rfl⟩
  rw [← hrs] at hB cl ⊢
  have HB:=Lib.hid hB
  have HOL:=Lib.hid cl
  have HRS:=Lib.hid hrs
  clear hB cl hrs
  go_wp2_with (first|((with_reducible refine aS 38 ?_);refine wpList_load_part rfl 100 _ rfl w.heap.size 0 _ 100 (0,0) _ (HB.out.get 0 rfl) rfl .i64 rs (arr_part _ _) Tryd.underlying100 rfl (el_i HOL.out) ?_)|((with_reducible show wpList _ _ _ (Oper.mk none _ _ _ _ _ :: _) _ _);refine wpList_store_whole rfl 100 _ _ rfl (w.heap.size+1) _ _ 100 (HB.out.get 1 rfl) rfl rfl (arr_len2 _ _ HOL.out HZL.out) (el_s HOL.out) (all_arr _ _) ?_;intro w7 hb7 hk7 hz7;have HB7:=Lib.hid (HB.out.put 1 rfl hk7 hb7);clear hb7 hk7 hz7))
  (try simp only [Exit.inBlock,Exit.then])
  refine bodyPost_ret (results_cell_row rfl _ _ (w.heap.size+1) 100 _ (0,0) _ rfl (HB7.out.get 1 rfl) Tryd.underlying100 rfl (el_s HOL.out)) rfl ?_
  exact ⟨by rw [HRS.out],HB7.out.below⟩
end Go.Proofs.YtodnkallpfkdiaaDoor.Rd
namespace Go.Proofs.YtodnkallpfkdiaaDoor.Rd
open Go.RowKit Lm Fp
theorem byte_at {xs:List Int} (h:∀ x∈xs,0≤x∧x≤255) (i:Nat):0≤xs.getD i 0∧xs.getD i 0≤255:=by
 simp only [List.getD]
 cases e:xs[i]? with
 | none=>simp
 | some y=>simpa using h y (List.mem_of_getElem? e)
theorem or_pair (x y:Int) (hx:0≤x∧x≤255) (hy:0≤y∧y≤255):bits .or .i64 x (y * 256)=x+256 * y:=by
 obtain ⟨a,rfl⟩:=Int.eq_ofNat_of_zero_le hx.1
 obtain ⟨b,rfl⟩:=Int.eq_ofNat_of_zero_le hy.1
 have h1:(BitVec.ofInt 64 (a:Int)).toNat=a:=by rw [BitVec.ofInt_natCast,BitVec.toNat_ofNat];exact Nat.mod_eq_of_lt (by omega)
 have h2:(BitVec.ofInt 64 ((b:Int) * 256)).toNat=b * 256:=by
  rw [show (b:Int) * 256=((b * 256:Nat):Int) by omega,BitVec.ofInt_natCast,BitVec.toNat_ofNat];exact Nat.mod_eq_of_lt (by omega)
 show IntKind.i64.wrap ((BitVec.ofInt 64 (a:Int) ||| BitVec.ofInt 64 ((b:Int) * 256)).toNat:Int)=_
 have h3:a ||| b * 256=b * 256+a:=by
  rw [Nat.or_comm,Nat.mul_comm,show (256:Nat)=2 ^ 8 by rfl,← Nat.two_pow_add_eq_or_of_lt (by omega)]
 rw [BitVec.toNat_or,h1,h2,h3,IntKind.wrap_i64]
 omega
theorem in_code (ns:List Int) (w:World) (hl:ns.length=32) (hb:∀ x∈ns,0≤x∧x≤255) :
  Calls Tryd.prog 104 #[.agg (arr .u8 ns)] w fun e w'=>e = .returned (.agg (arr .i64 (ins ns 16)))∧Below w.heap.size w w':=by
 obtain ⟨ze,hze⟩:∃ zs:List Int,zs=List.replicate 16 0:=⟨_,rfl⟩
 have HZze:Hid (∀ w,(zeroValue 100).run Tryd.prog w = .ok (.agg (arr .i64 ze)) w):=Lib.hid (by intro w;rw [hze];exact zero_el w)
 have HLze:Hid (ze.length=16):=Lib.hid (by rw [hze];rfl)
 have hz0:ze=ins ns 0:=by rw [hze];exact ins_zero ns
 have HS0:=Lib.hid (Blk.three w (arr .u8 ns) (arr .i64 ze) (arr .i64 ze) 23 100 100)
 have HL:=Lib.hid hl
 have HB:=Lib.hid hb
 have HZ0:=Lib.hid hz0
 clear hze hl hb hz0
 go_enter Tryd.func104, Tryd.ntmps104
 go_wp2_with (first|((with_reducible refine aS 2 ?_);refine wpList_alloc_row rfl 100 rfl _ (HZze.out _) ?_)|((with_reducible refine aS 3 ?_);refine wpList_alloc_row rfl 100 rfl _ (HZze.out _) ?_))
 go_loopw [4] (fun v wr=>∃ i:Nat,i≤16∧v = .int .i64 i∧∃ cs:List Int,cs=ins ns i∧Blk w wr [(w.heap.size,arr .u8 ns, 23),(w.heap.size+1,arr .i64 ze, 100),(w.heap.size+1+1,arr .i64 cs, 100)]) (fun v _=>16 - (intOf v).toNat)
 case atStart=>exact ⟨0,Nat.zero_le _,rfl,_,HZ0.out,HS0.out⟩
 clear HS0 HZ0
 case round =>
 obtain ⟨i,hi,rfl,cs,hcs,hB⟩:=hrel
 have cl:cs.length=16:=by rw [hcs];exact tb_len _ _
 by_cases hlt:i < 16
 ·have q0:=arr_get' (hB.get 0 rfl) (2 * i) (by rw [HL.out];omega)
  have q1:=arr_get' (hB.get 0 rfl) (2 * i+1) (by rw [HL.out];omega)
  have q3:=free_blk (hB.get 2 rfl) i
  have q4:=arr_get' (hB.get 2 rfl) i (by rw [cl];exact hlt)
  have b0:=byte_at HB.out (2 * i)
  have b1:=byte_at HB.out (2 * i+1)
  have st:=ins_step ns i
  generalize ns.getD (2 * i) 0=x at q0 b0 st
  generalize ns.getD (2 * i+1) 0=y at q1 b1 st
  have ho:=or_pair x y b0 b1
  have hb1:=hB.cell 2 rfl i (.int .i64 (bits .or .i64 x (y * 256)))
  have e2:(arr .i64 cs).setIfInBounds i (.int .i64 (bits .or .i64 x (y * 256)))=arr .i64 (ins ns (i+1)):=by rw [ho,arr_set,hcs,st]
  have HB1:=Lib.hid (hb1.cast (l':=[(w.heap.size,arr .u8 ns, 23),(w.heap.size+1,arr .i64 ze, 100),(w.heap.size+1+1,arr .i64 (ins ns (i+1)), 100)]) (by rw [← e2];rfl))
  have n1:(2 * (i:Int)).toNat=2 * i:=by omega
  have n2:(2 * (i:Int)+1).toNat=2 * i+1:=by omega
  clear hb1 e2 hcs hB st ho cl
  go_wp2_with fail
  go_region
  go_wp2_with fail
  go_roundw
  case rel=>exact ⟨i+1,by omega,by go_num,_,rfl,HB1.out.drew⟩
  case measure=>simp [intOf];omega
 ·obtain rfl:i=16:=by omega
  have HB2:=Lib.hid hB
  have HOL:=Lib.hid cl
  have HRS:=Lib.hid hcs
  clear hB cl hcs
  go_wp2_with (first|((with_reducible refine aS 24 ?_);refine wpList_load_part rfl 100 _ rfl (w.heap.size+1+1) 0 _ 100 (0,0) _ (HB2.out.get 2 rfl) rfl .i64 cs (arr_part _ _) Tryd.underlying100 rfl (el_i HOL.out) ?_)|((with_reducible refine aT 2 ?_);refine wpList_store_whole rfl 100 _ _ rfl (w.heap.size+1) _ _ 100 (HB2.out.get 1 rfl) rfl rfl (arr_len2 _ _ HOL.out HLze.out) (el_s HOL.out) (all_arr _ _) ?_;intro w7 hb7 hk7 hz7;have HB7:=Lib.hid (HB2.out.put 1 rfl hk7 hb7);clear hb7 hk7 hz7))
  (try simp only [Exit.inBlock,Exit.then])
  refine bodyPost_ret (results_cell_row rfl _ _ (w.heap.size+1) 100 _ (0,0) _ rfl (HB7.out.get 1 rfl) Tryd.underlying100 rfl (el_s HOL.out)) rfl ?_
  exact ⟨by rw [HRS.out],HB7.out.below⟩
/-- The document's in: of 32 bytes. -/
theorem in_any (ns:List Nat) (w:World) (hl:ns.length=32) (hb:∀ n∈ns,n < 256) :
  Calls Tryd.prog 104 #[.agg (arr .u8 (nar ns))] w fun e w'=>∃ zs,e = .returned (.agg (arr .i64 zs))∧El zs (val 256 ns % p)∧Below w.heap.size w w' :=
 (in_code (nar ns) w (by rw [nar_len,hl]) (by
  intro x hx
  obtain ⟨n,hn,rfl⟩:=List.mem_map.1 hx
  have:=hb n hn
  show 0≤(n:Int)∧(n:Int)≤255
  omega)).mono fun _ _ h=>⟨_,h.1,ins_el ns hl hb,h.2⟩
theorem one_any (n:Nat) (w:World) (hn:n≤1048576) :
  Calls Tryd.prog 101 #[.int .i64 n] w fun e w'=>∃ zs,e = .returned (.agg (arr .i64 zs))∧El zs n∧Below w.heap.size w w':=by
 obtain ⟨ze,hze⟩:∃ zs:List Int,zs=List.replicate 16 0:=⟨_,rfl⟩
 have HZze:Hid (∀ w,(zeroValue 100).run Tryd.prog w = .ok (.agg (arr .i64 ze)) w):=Lib.hid (by intro w;rw [hze];exact zero_el w)
 have HLze:Hid (ze.length=16):=Lib.hid (by rw [hze];rfl)
 have hE:=el_small n hn
 rw [← hze] at hE
 have HS0:=Lib.hid ((Blk.two w (arr .i64 ze) ((arr .i64 ze).setIfInBounds 0 (.int .i64 (n:Int))) 100 100).cast (l':=[(w.heap.size,arr .i64 ze, 100),(w.heap.size+1,arr .i64 (ze.set 0 (n:Int)), 100)]) (by rw [← arr_set]))
 have HS1:=Lib.hid (Blk.two w (arr .i64 ze) (arr .i64 ze) 100 100)
 have HE:=Lib.hid hE
 have q0:=arr_get' (HS1.out.get 1 rfl) 0 (by rw [HLze.out];decide)
 have q1:=free_blk (HS1.out.get 1 rfl) 0
 obtain ⟨cs,hcs⟩:∃ cs,cs=ze.set 0 (n:Int):=⟨_,rfl⟩
 have HOL:Hid (cs.length=16):=Lib.hid (by rw [hcs,List.length_set];exact HLze.out)
 rw [← hcs] at HS0 HE
 clear hze hE hcs HS1
 go_enter Tryd.func101, Tryd.ntmps101
 go_wp2_with (first|((with_reducible refine aS 2 ?_);refine wpList_alloc_row rfl 100 rfl _ (HZze.out _) ?_)|((with_reducible refine aS 3 ?_);refine wpList_alloc_row rfl 100 rfl _ (HZze.out _) ?_)|((with_reducible refine aS 6 ?_);refine wpList_load_part rfl 100 _ rfl (w.heap.size+1) 0 _ 100 (0,0) _ (HS0.out.get 1 rfl) rfl .i64 cs (arr_part _ _) Tryd.underlying100 rfl (el_i HOL.out) ?_)|((with_reducible refine aT 2 ?_);refine wpList_store_whole rfl 100 _ _ rfl (w.heap.size) _ _ 100 (HS0.out.get 0 rfl) rfl rfl (arr_len2 _ _ HOL.out HLze.out) (el_s HOL.out) (all_arr _ _) ?_;intro w7 hb7 hk7 hz7;have HB7:=Lib.hid (HS0.out.put 0 rfl hk7 hb7);clear hb7 hk7 hz7))
 (try simp only [Exit.inBlock,Exit.then])
 refine bodyPost_ret (results_cell_row rfl _ _ (w.heap.size) 100 _ (0,0) _ rfl (HB7.out.get 0 rfl) Tryd.underlying100 rfl (el_s HOL.out)) rfl ?_
 exact ⟨_,rfl,HE.out,HB7.out.below⟩
def mid_add (xs ys:List Int) (i:Nat):List Int:=tb 16 fun j=>if j < i then xs.getD j 0+ys.getD j 0 else xs.getD j 0
theorem mid_add_zero (xs ys:List Int) (h:xs.length=16):mid_add xs ys 0=xs:=by
 refine Eq.trans (tb_congr _ _ _ fun i _=>?_) (tb_of 16 xs h).symm
 rw [if_neg (by omega)]
theorem mid_add_all (xs ys:List Int):mid_add xs ys 16=sumr xs ys:=tb_congr _ _ _ fun i hi=>by rw [if_pos hi]
theorem mid_add_get (xs ys:List Int) (i:Nat) (h:i < 16):(mid_add xs ys i).getD i 0=xs.getD i 0:=by rw [mid_add,tb_get _ _ _ h,if_neg (by omega)]
theorem mid_add_step (xs ys:List Int) (i:Nat):(mid_add xs ys i).set i (xs.getD i 0+ys.getD i 0)=mid_add xs ys (i+1):=by
 rw [mid_add,tb_set]
 refine tb_congr _ _ _ fun j _=>?_
 by_cases e:j=i
 ·subst e;rw [if_pos rfl,if_pos (by omega)]
 ·rw [if_neg e]
  by_cases e3:j < i
  ·rw [if_pos e3,if_pos (by omega)]
  ·rw [if_neg e3,if_neg (by omega)]
theorem add_any (xs ys:List Int) (a b:Nat) (w:World) (hx:El xs a) (hy:El ys b) :
  Calls Tryd.prog 107 #[.agg (arr .i64 xs), .agg (arr .i64 ys)] w fun e w'=>∃ zs,e = .returned (.agg (arr .i64 zs))∧El zs (fadd a b)∧Below w.heap.size w w':=by
 obtain ⟨ze,hze⟩:∃ zs:List Int,zs=List.replicate 16 0:=⟨_,rfl⟩
 have HZze:Hid (∀ w,(zeroValue 100).run Tryd.prog w = .ok (.agg (arr .i64 ze)) w):=Lib.hid (by intro w;rw [hze];exact zero_el w)
 have HLze:Hid (ze.length=16):=Lib.hid (by rw [hze];rfl)
 have HS0:=Lib.hid (Blk.three w (arr .i64 xs) (arr .i64 ys) (arr .i64 ze) 100 100 100)
 have HX:=Lib.hid hx
 have HY:=Lib.hid hy
 have HE:=Lib.hid (El.add hx hy)
 have HC:=Lib.hid (fun w=>carry_code (sumr xs ys) w (tb_len _ _) (tb_mem _ _ _ fun i _=>by
  have h1:=getD_bound xs 1048576 hx.2.1 (by decide) i
  have h2:=getD_bound ys 1048576 hy.2.1 (by decide) i
  omega))
 obtain ⟨rs,hrs⟩:∃ rs,rs=carry (sumr xs ys):=⟨_,rfl⟩
 rw [← hrs] at HE HC
 have HRL:Hid (rs.length=16):=Lib.hid (by rw [hrs];exact carry_len _)
 obtain ⟨ss,hss⟩:∃ ss,ss=sumr xs ys:=⟨_,rfl⟩
 have HSL:Hid (ss.length=16):=Lib.hid (by rw [hss];exact tb_len _ _)
 rw [← hss] at HC
 have HSS:=Lib.hid hss
 clear hze hx hy hrs hss
 go_enter Tryd.func107, Tryd.ntmps107
 go_wp2_with (first|((with_reducible refine aS 4 ?_);refine wpList_alloc_row rfl 100 rfl _ (HZze.out _) ?_))
 go_loopw [5] (fun v wr=>∃ i:Nat,i≤16∧v = .int .i64 i∧∃ cs:List Int,cs=mid_add xs ys i∧Blk w wr [(w.heap.size,arr .i64 cs, 100),(w.heap.size+1,arr .i64 ys, 100),(w.heap.size+1+1,arr .i64 ze, 100)]) (fun v _=>16 - (intOf v).toNat)
 case atStart=>exact ⟨0,Nat.zero_le _,rfl,_,(mid_add_zero xs ys HX.out.1).symm,HS0.out⟩
 clear HS0
 case round =>
 obtain ⟨i,hi,rfl,cs,hcs,hB⟩:=hrel
 have cl:cs.length=16:=by rw [hcs];exact tb_len _ _
 by_cases hlt:i < 16
 ·have q0:=arr_get' (hB.get 0 rfl) i (by rw [cl];exact hlt)
  have q1:=arr_get' (hB.get 1 rfl) i (by rw [HY.out.1];exact hlt)
  have q3:=free_blk (hB.get 0 rfl) i
  rw [hcs,mid_add_get xs ys i hlt] at q0
  have b0:=getD_bound xs 1048576 HX.out.2.1 (by decide) i
  have b1:=getD_bound ys 1048576 HY.out.2.1 (by decide) i
  have st:=mid_add_step xs ys i
  generalize xs.getD i 0=x at q0 b0 st
  generalize ys.getD i 0=y at q1 b1 st
  have hb1:=hB.cell 0 rfl i (.int .i64 (x+y))
  have e2:(arr .i64 cs).setIfInBounds i (.int .i64 (x+y))=arr .i64 (mid_add xs ys (i+1)):=by rw [arr_set,hcs,st]
  have HB1:=Lib.hid (hb1.cast (l':=[(w.heap.size,arr .i64 (mid_add xs ys (i+1)), 100),(w.heap.size+1,arr .i64 ys, 100),(w.heap.size+1+1,arr .i64 ze, 100)]) (by rw [← e2];rfl))
  clear hb1 e2 hcs hB st cl
  go_wp2_with fail
  go_region
  go_wp2_with fail
  go_roundw
  case rel=>exact ⟨i+1,by omega,by go_num,_,rfl,HB1.out.drew⟩
  case measure=>simp [intOf];omega
 ·obtain rfl:i=16:=by omega
  rw [mid_add_all,← HSS.out] at hcs
  subst hcs
  have HB2:=Lib.hid hB
  clear hB cl
  go_wp2_with (first|((with_reducible refine aS 19 ?_);refine wpList_load_part rfl 100 _ rfl (w.heap.size) 0 _ 100 (0,0) _ (HB2.out.get 0 rfl) rfl .i64 cs (arr_part _ _) Tryd.underlying100 rfl (el_i HSL.out) ?_)|((with_reducible show Calls _ _ #[.agg _] _ _);go_at_call 141; refine (HC.out _).mono ?_;rintro e w6 ⟨rfl,hb6⟩;have HB6:=Lib.hid (HB2.out.kept hb6);clear hb6)|((with_reducible refine aT 4 ?_);refine wpList_store_whole rfl 100 _ _ rfl (w.heap.size+1+1) _ _ 100 (HB6.out.get 2 rfl) rfl rfl (arr_len2 _ _ HRL.out HLze.out) (el_s HRL.out) (all_arr _ _) ?_;intro w7 hb7 hk7 hz7;have HB7:=Lib.hid (HB6.out.put 2 rfl hk7 hb7);clear hb7 hk7 hz7))
  (try simp only [Exit.inBlock,Exit.then])
  refine bodyPost_ret (results_cell_row rfl _ _ (w.heap.size+1+1) 100 _ (0,0) _ rfl (HB7.out.get 2 rfl) Tryd.underlying100 rfl (el_s HRL.out)) rfl ?_
  exact ⟨_,rfl,HE.out,HB7.out.below⟩
def mid_sub (xs ys:List Int) (i:Nat):List Int:=tb 16 fun j=>if j < i then xs.getD j 0 - ys.getD j 0 else xs.getD j 0
theorem mid_sub_zero (xs ys:List Int) (h:xs.length=16):mid_sub xs ys 0=xs:=by
 refine Eq.trans (tb_congr _ _ _ fun i _=>?_) (tb_of 16 xs h).symm
 rw [if_neg (by omega)]
theorem mid_sub_all (xs ys:List Int):mid_sub xs ys 16=difr xs ys:=tb_congr _ _ _ fun i hi=>by rw [if_pos hi]
theorem mid_sub_get (xs ys:List Int) (i:Nat) (h:i < 16):(mid_sub xs ys i).getD i 0=xs.getD i 0:=by rw [mid_sub,tb_get _ _ _ h,if_neg (by omega)]
theorem mid_sub_step (xs ys:List Int) (i:Nat):(mid_sub xs ys i).set i (xs.getD i 0 - ys.getD i 0)=mid_sub xs ys (i+1):=by
 rw [mid_sub,tb_set]
 refine tb_congr _ _ _ fun j _=>?_
 by_cases e:j=i
 ·subst e;rw [if_pos rfl,if_pos (by omega)]
 ·rw [if_neg e]
  by_cases e3:j < i
  ·rw [if_pos e3,if_pos (by omega)]
  ·rw [if_neg e3,if_neg (by omega)]
theorem sub_any (xs ys:List Int) (a b:Nat) (w:World) (hx:El xs a) (hy:El ys b) :
  Calls Tryd.prog 106 #[.agg (arr .i64 xs), .agg (arr .i64 ys)] w fun e w'=>∃ zs,e = .returned (.agg (arr .i64 zs))∧El zs (fsub a b)∧Below w.heap.size w w':=by
 obtain ⟨ze,hze⟩:∃ zs:List Int,zs=List.replicate 16 0:=⟨_,rfl⟩
 have HZze:Hid (∀ w,(zeroValue 100).run Tryd.prog w = .ok (.agg (arr .i64 ze)) w):=Lib.hid (by intro w;rw [hze];exact zero_el w)
 have HLze:Hid (ze.length=16):=Lib.hid (by rw [hze];rfl)
 have HS0:=Lib.hid (Blk.three w (arr .i64 xs) (arr .i64 ys) (arr .i64 ze) 100 100 100)
 have HX:=Lib.hid hx
 have HY:=Lib.hid hy
 have HE:=Lib.hid (El.sub hx hy)
 have HC:=Lib.hid (fun w=>carry_code (difr xs ys) w (tb_len _ _) (tb_mem _ _ _ fun i _=>by
  have h1:=getD_bound xs 1048576 hx.2.1 (by decide) i
  have h2:=getD_bound ys 1048576 hy.2.1 (by decide) i
  omega))
 obtain ⟨rs,hrs⟩:∃ rs,rs=carry (difr xs ys):=⟨_,rfl⟩
 rw [← hrs] at HE HC
 have HRL:Hid (rs.length=16):=Lib.hid (by rw [hrs];exact carry_len _)
 obtain ⟨ss,hss⟩:∃ ss,ss=difr xs ys:=⟨_,rfl⟩
 have HSL:Hid (ss.length=16):=Lib.hid (by rw [hss];exact tb_len _ _)
 rw [← hss] at HC
 have HSS:=Lib.hid hss
 clear hze hx hy hrs hss
 go_enter Tryd.func106, Tryd.ntmps106
 go_wp2_with (first|((with_reducible refine aS 4 ?_);refine wpList_alloc_row rfl 100 rfl _ (HZze.out _) ?_))
 go_loopw [5] (fun v wr=>∃ i:Nat,i≤16∧v = .int .i64 i∧∃ cs:List Int,cs=mid_sub xs ys i∧Blk w wr [(w.heap.size,arr .i64 cs, 100),(w.heap.size+1,arr .i64 ys, 100),(w.heap.size+1+1,arr .i64 ze, 100)]) (fun v _=>16 - (intOf v).toNat)
 case atStart=>exact ⟨0,Nat.zero_le _,rfl,_,(mid_sub_zero xs ys HX.out.1).symm,HS0.out⟩
 clear HS0
 case round =>
 obtain ⟨i,hi,rfl,cs,hcs,hB⟩:=hrel
 have cl:cs.length=16:=by rw [hcs];exact tb_len _ _
 by_cases hlt:i < 16
 ·have q0:=arr_get' (hB.get 0 rfl) i (by rw [cl];exact hlt)
  have q1:=arr_get' (hB.get 1 rfl) i (by rw [HY.out.1];exact hlt)
  have q3:=free_blk (hB.get 0 rfl) i
  rw [hcs,mid_sub_get xs ys i hlt] at q0
  have b0:=getD_bound xs 1048576 HX.out.2.1 (by decide) i
  have b1:=getD_bound ys 1048576 HY.out.2.1 (by decide) i
  have st:=mid_sub_step xs ys i
  generalize xs.getD i 0=x at q0 b0 st
  generalize ys.getD i 0=y at q1 b1 st
  have hb1:=hB.cell 0 rfl i (.int .i64 (x - y))
  have e2:(arr .i64 cs).setIfInBounds i (.int .i64 (x - y))=arr .i64 (mid_sub xs ys (i+1)):=by rw [arr_set,hcs,st]
  have HB1:=Lib.hid (hb1.cast (l':=[(w.heap.size,arr .i64 (mid_sub xs ys (i+1)), 100),(w.heap.size+1,arr .i64 ys, 100),(w.heap.size+1+1,arr .i64 ze, 100)]) (by rw [← e2];rfl))
  clear hb1 e2 hcs hB st cl
  go_wp2_with fail
  go_region
  go_wp2_with fail
  go_roundw
  case rel=>exact ⟨i+1,by omega,by go_num,_,rfl,HB1.out.drew⟩
  case measure=>simp [intOf];omega
 ·obtain rfl:i=16:=by omega
  rw [mid_sub_all,← HSS.out] at hcs
  subst hcs
  have HB2:=Lib.hid hB
  clear hB cl
  go_wp2_with (first|((with_reducible refine aS 19 ?_);refine wpList_load_part rfl 100 _ rfl (w.heap.size) 0 _ 100 (0,0) _ (HB2.out.get 0 rfl) rfl .i64 cs (arr_part _ _) Tryd.underlying100 rfl (el_i HSL.out) ?_)|((with_reducible show Calls _ _ #[.agg _] _ _);go_at_call 141; refine (HC.out _).mono ?_;rintro e w6 ⟨rfl,hb6⟩;have HB6:=Lib.hid (HB2.out.kept hb6);clear hb6)|((with_reducible refine aT 4 ?_);refine wpList_store_whole rfl 100 _ _ rfl (w.heap.size+1+1) _ _ 100 (HB6.out.get 2 rfl) rfl rfl (arr_len2 _ _ HRL.out HLze.out) (el_s HRL.out) (all_arr _ _) ?_;intro w7 hb7 hk7 hz7;have HB7:=Lib.hid (HB6.out.put 2 rfl hk7 hb7);clear hb7 hk7 hz7))
  (try simp only [Exit.inBlock,Exit.then])
  refine bodyPost_ret (results_cell_row rfl _ _ (w.heap.size+1+1) 100 _ (0,0) _ rfl (HB7.out.get 2 rfl) Tryd.underlying100 rfl (el_s HRL.out)) rfl ?_
  exact ⟨_,rfl,HE.out,HB7.out.below⟩
end Go.Proofs.YtodnkallpfkdiaaDoor.Rd
namespace Go.Proofs.YtodnkallpfkdiaaDoor.Rd
open Go.RowKit Lm Fp
theorem zero_31 (w:World):(zeroValue 180).run Tryd.prog w = .ok (.agg (arr .i64 (List.replicate 31 0))) w:=by kernel_rfl
def mf (ts:List Int) (i:Nat):List Int:=tb 16 fun j=>if j < i then (if j < 15 then ts.getD j 0+38 * ts.getD (j+16) 0 else ts.getD j 0) else 0
theorem mf_zero (ts:List Int):List.replicate 16 0=mf ts 0:=by
 rw [tb_zero]
 exact tb_congr _ _ _ fun j _=>by rw [if_neg (by omega)]
theorem mf_all (ts:List Int):mf ts 16=foldr ts:=tb_congr _ _ _ fun _ hj=>if_pos hj
theorem mf_step (ts:List Int) (i:Nat) (v:Int) (h:(if i < 15 then ts.getD i 0+38 * ts.getD (i+16) 0 else ts.getD i 0)=v):(mf ts i).set i v=mf ts (i+1):=by
 subst h
 rw [mf,tb_set]
 refine tb_congr _ _ _ fun j _=>?_
 by_cases e:j=i
 ·subst e;rw [if_pos rfl,if_pos (show j < j+1 by omega)]
 ·rw [if_neg e]
  by_cases e3:j < i
  ·rw [if_pos e3,if_pos (show j < i+1 by omega)]
  ·rw [if_neg e3,if_neg (show ¬ j < i+1 by omega)]
theorem row_done (a b c d:Int) (h:c=a * d+b * d):c=(a+b) * d:=by rw [h,Int.add_mul]
theorem mul_any (xs ys:List Int) (a b:Nat) (w:World) (hx:El xs a) (hy:El ys b) :
  Calls Tryd.prog 98 #[.agg (arr .i64 xs), .agg (arr .i64 ys)] w fun e w'=>∃ zs,e = .returned (.agg (arr .i64 zs))∧El zs (fmul a b)∧Below w.heap.size w w':=by
 obtain ⟨ze,hze⟩:∃ zs:List Int,zs=List.replicate 16 0:=⟨_,rfl⟩
 have HZze:Hid (∀ w,(zeroValue 100).run Tryd.prog w = .ok (.agg (arr .i64 ze)) w):=Lib.hid (by intro w;rw [hze];exact zero_el w)
 have HLze:Hid (ze.length=16):=Lib.hid (by rw [hze];rfl)
 obtain ⟨zt,hzt⟩:∃ zs:List Int,zs=List.replicate 31 0:=⟨_,rfl⟩
 have HZt:Hid (∀ w,(zeroValue 180).run Tryd.prog w = .ok (.agg (arr .i64 zt)) w):=Lib.hid (by intro w;rw [hzt];exact zero_31 w)
 have HLt:Hid (zt.length=31):=Lib.hid (by rw [hzt];rfl)
 have HVt:Hid (vi zt=0):=Lib.hid (by rw [hzt];decide)
 have HGt:Hid (∀ n,zt.getD n 0=0):=Lib.hid (by intro n;rw [hzt,List.getD,List.getElem?_replicate];split <;> rfl)
 have HZ0:Hid (∀ ts,ze=mf ts 0):=Lib.hid (fun ts=>by rw [hze];exact mf_zero ts)
 have HX:=Lib.hid hx
 have HY:=Lib.hid hy
 have HXB:=Lib.hid (getD_bound xs 1048576 hx.2.1 (by decide))
 have HYB:=Lib.hid (getD_bound ys 1048576 hy.2.1 (by decide))
 have HYV:Hid (si 16 (fun j=>65536 ^ j * ys.getD j 0)=vi ys):=Lib.hid (vi_len 16 ys hy.1).symm
 have HXV:Hid (si 16 (fun j=>65536 ^ j * xs.getD j 0)=vi xs):=Lib.hid (vi_len 16 xs hx.1).symm
 have HS0:=Lib.hid (Blk.four w (arr .i64 xs) (arr .i64 ys) (arr .i64 ze) (arr .i64 zt) 100 100 100 180)
 clear hze hzt hx hy
 go_enter Tryd.func98, Tryd.ntmps98
 go_wp2_with (first|((with_reducible refine aS 4 ?_);refine wpList_alloc_row rfl 100 rfl _ (HZze.out _) ?_)|((with_reducible refine aS 5 ?_);refine wpList_alloc_row rfl 180 rfl _ (HZt.out _) ?_))
 go_loopw [6] (fun v wr=>∃ i:Nat,i≤16∧v = .int .i64 i∧∃ ts:List Int,ts.length=31∧(∀ n, -(1099511627776 * (i:Int))≤ts.getD n 0∧ts.getD n 0≤1099511627776 * (i:Int))∧vi ts=si i (fun j=>65536 ^ j * xs.getD j 0) * vi ys∧Blk w wr [(w.heap.size,arr .i64 xs, 100),(w.heap.size+1,arr .i64 ys, 100),(w.heap.size+1+1,arr .i64 ze, 100),(w.heap.size+1+1+1,arr .i64 ts, 180)]) (fun v _=>16 - (intOf v).toNat)
 case atStart=>exact ⟨0,Nat.zero_le _,rfl,zt,HLt.out,(by intro n;rw [HGt.out n];omega),(by rw [HVt.out,si,Int.zero_mul]),HS0.out⟩
 clear HS0
 case round =>
 obtain ⟨i,hi,rfl,ts,tl,tb0,tv,hB⟩:=hrel
 by_cases hlt:i < 16
 ·have HB:=Lib.hid hB
  have HTL:=Lib.hid tl
  have HTB:=Lib.hid tb0
  have HTV:=Lib.hid tv
  clear hB tl tb0 tv
  go_wp2_with fail
  generalize Value.bool (decide ((i:Int) < 16))=u11'
  go_loopw [7] (fun v wr=>∃ k:Nat,k≤16∧v = .int .i64 k∧∃ us:List Int,us.length=31∧(∀ n, -(1099511627776 * ((i:Int)+if i≤n∧n < i+k then 1 else 0))≤us.getD n 0∧us.getD n 0≤1099511627776 * ((i:Int)+if i≤n∧n < i+k then 1 else 0))∧vi us=si i (fun j=>65536 ^ j * xs.getD j 0) * vi ys+65536 ^ i * xs.getD i 0 * si k (fun j=>65536 ^ j * ys.getD j 0)∧Blk w wr [(w.heap.size,arr .i64 xs, 100),(w.heap.size+1,arr .i64 ys, 100),(w.heap.size+1+1,arr .i64 ze, 100),(w.heap.size+1+1+1,arr .i64 us, 180)]) (fun v _=>16 - (intOf v).toNat)
  case atStart=>exact ⟨0,Nat.zero_le _,rfl,ts,HTL.out,(by intro n;rw [if_neg (by omega)];have:=HTB.out n;omega),(by rw [HTV.out,si,Int.mul_zero,Int.add_zero]),HB.out⟩
  case round =>
   obtain ⟨k,hk,rfl,us,ul,ub,uv,hU⟩:=hrel
   by_cases hlk:k < 16
   ·have q0:=arr_get' (hU.get 0 rfl) i (by rw [HX.out.1];exact hlt)
    have q1:=arr_get' (hU.get 1 rfl) k (by rw [HY.out.1];exact hlk)
    have q2:=arr_get' (hU.get 3 rfl) (i+k) (by rw [ul];omega)
    have q3:=free_blk (hU.get 3 rfl) (i+k)
    have pb:=prod_bound xs ys us i k HXB.out HYB.out hlt hlk ul ub
    have ps:=prod_step xs ys us i k hlt hlk ul _ uv
    have ub0:=ub (i+k)
    rw [if_neg (by omega)] at ub0
    have hp : -1099511627776≤xs.getD i 0 * ys.getD k 0∧xs.getD i 0 * ys.getD k 0≤1099511627776:=by
     have h1:=HXB.out i
     have h2:=HYB.out k
     generalize xs.getD i 0=x at h1
     generalize ys.getD k 0=y at h2
     have e:=Int.natAbs_mul x y
     have a1:x.natAbs≤1048576:=by omega
     have a2:y.natAbs≤1048576:=by omega
     have:=Nat.mul_le_mul a1 a2
     omega
    have HPB:=Lib.hid pb
    have HPS:=Lib.hid ps
    have HPL:Hid ((us.set (i+k) (us.getD (i+k) 0+xs.getD i 0 * ys.getD k 0)).length=31):=Lib.hid (by rw [List.length_set,ul])
    have hb1:=hU.cell 3 rfl (i+k) (.int .i64 (us.getD (i+k) 0+xs.getD i 0 * ys.getD k 0))
    obtain ⟨vs,hvs⟩:∃ vs,vs=us.set (i+k) (us.getD (i+k) 0+xs.getD i 0 * ys.getD k 0):=⟨_,rfl⟩
    have e2:(arr .i64 us).setIfInBounds (i+k) (.int .i64 (us.getD (i+k) 0+xs.getD i 0 * ys.getD k 0))=arr .i64 vs:=by rw [arr_set,hvs]
    have HB1:=Lib.hid (hb1.cast (l':=[(w.heap.size,arr .i64 xs, 100),(w.heap.size+1,arr .i64 ys, 100),(w.heap.size+1+1,arr .i64 ze, 100),(w.heap.size+1+1+1,arr .i64 vs, 180)]) (by rw [← e2];rfl))
    rw [← hvs] at HPB HPS HPL
    clear hb1 e2 hvs hU ul ub uv pb ps
    generalize us.getD (i+k) 0=u at q2 ub0 HB1
    generalize xs.getD i 0=x at q0 hp HPS HB1
    generalize ys.getD k 0=y at q1 hp HB1
    go_wp2_with fail
    go_region
    go_wp2_with fail
    go_roundw
    case rel=>exact ⟨k+1,by omega,by go_num,vs,HPL.out,HPB.out,HPS.out,HB1.out.drew⟩
    case measure=>simp [intOf];omega
   ·obtain rfl:k=16:=by omega
    rw [HYV.out] at uv
    have HU:=Lib.hid hU
    have HUL:=Lib.hid ul
    have HUB:Hid (∀ n, -(1099511627776 * ((i+1:Nat):Int))≤us.getD n 0∧us.getD n 0≤1099511627776 * ((i+1:Nat):Int)):=Lib.hid (by
     intro n
     have:=ub n
     by_cases e:i≤n∧n < i+16
     ·rw [if_pos e] at this;omega
     ·rw [if_neg e] at this;omega)
    have HUV:Hid (vi us=si (i+1) (fun j=>65536 ^ j * xs.getD j 0) * vi ys):=Lib.hid (by rw [uv,si,Int.add_mul])
    clear hU ul ub uv HB HTL HTB HTV
    go_wp2_with fail
    go_roundw
    case rel=>exact ⟨i+1,by omega,by go_num,us,HUL.out,HUB.out,HUV.out,HU.out⟩
    case measure=>simp [intOf];omega
 ·obtain rfl:i=16:=by omega
  rw [HXV.out] at tv
  have hf:=El.mul HX.out HY.out tl (by intro n;have:=tb0 n;omega) tv
  have fb:∀ x∈foldr ts, -1125899906842624≤x∧x≤1125899906842624:=tb_mem _ _ _ fun i _=>by
   have h1:=tb0 i
   have h2:=tb0 (i+16)
   split <;> omega
  have n1:Near (38 * 17180200000) (carry (foldr ts)):=carry_any _ 1125899906842624 17180200000 (getD_bound _ _ fb (by decide)) (by decide) (by decide)
  have HC1:=Lib.hid (fun w=>carry_code (foldr ts) w (tb_len _ _) (fun x hx=>by have:=fb x hx;omega))
  have HC2:=Lib.hid (fun w=>carry_code (carry (foldr ts)) w (carry_len _) (fun x hx=>by have:=near_mem n1 (by decide) x hx;omega))
  obtain ⟨rs,hrs⟩:∃ rs,rs=carry (carry (foldr ts)):=⟨_,rfl⟩
  have HRL:Hid (rs.length=16):=Lib.hid (by rw [hrs];exact carry_len _)
  rw [← hrs] at hf HC2
  obtain ⟨cs1,hcs1⟩:∃ cs,cs=carry (foldr ts):=⟨_,rfl⟩
  rw [← hcs1] at HC1 HC2
  have HF:=Lib.hid hf
  have HTB:=Lib.hid tb0
  have HTL:=Lib.hid tl
  have HB:=Lib.hid (hB.alloc (arr .i64 ze) 100)
  clear hf fb n1 hrs hcs1 tb0 tl tv hB
  go_wp2_with (first|((with_reducible refine aS 8 ?_);refine wpList_alloc_row rfl 100 rfl _ (HZze.out _) ?_))
  generalize wr.heap.size=go at HB ⊢
  go_loopw [9] (fun v wq=>∃ i:Nat,i≤16∧v = .int .i64 i∧∃ os:List Int,os=mf ts i∧Blk w wq [(w.heap.size,arr .i64 xs, 100),(w.heap.size+1,arr .i64 ys, 100),(w.heap.size+1+1,arr .i64 ze, 100),(w.heap.size+1+1+1,arr .i64 ts, 180),(go,arr .i64 os, 100)]) (fun v _=>16 - (intOf v).toNat)
  case atStart=>exact ⟨0,Nat.zero_le _,rfl,_,HZ0.out ts,HB.out⟩
  case round =>
   obtain ⟨i,hi,rfl,os,hos,hQ⟩:=hrel
   have ol:os.length=16:=by rw [hos];exact tb_len _ _
   by_cases hlo:i < 16
   ·have q0:=arr_get' (hQ.get 3 rfl) i (by rw [HTL.out];omega)
    have q2:=arr_get' (hQ.get 4 rfl) i (by rw [ol];exact hlo)
    have q3:=free_blk (hQ.get 4 rfl) i
    have b0:=HTB.out i
    by_cases h15:i < 15
    ·have q1:=arr_get' (hQ.get 3 rfl) (i+16) (by rw [HTL.out];omega)
     have b1:=HTB.out (i+16)
     have st:=mf_step ts i _ (if_pos h15)
     generalize ts.getD i 0=x at q0 b0 st
     generalize ts.getD (i+16) 0=y at q1 b1 st
     have hb1:=(hQ.cell 4 rfl i (.int .i64 x)).cell 4 rfl i (.int .i64 (x+38 * y))
     have e2:((arr .i64 os).setIfInBounds i (.int .i64 x)).setIfInBounds i (.int .i64 (x+38 * y))=arr .i64 (mf ts (i+1)):=by rw [arr_set,arr_set,List.set_set,hos,st]
     have HB1:=Lib.hid (hb1.cast (l':=[(w.heap.size,arr .i64 xs, 100),(w.heap.size+1,arr .i64 ys, 100),(w.heap.size+1+1,arr .i64 ze, 100),(w.heap.size+1+1+1,arr .i64 ts, 180),(go,arr .i64 (mf ts (i+1)), 100)]) (by rw [← e2];rfl))
     clear hb1 e2 hos hQ st ol
     go_wp2_with fail
     go_region
     go_wp2_with fail
     go_roundw
     case rel=>exact ⟨i+1,by omega,by go_num,_,rfl,HB1.out.drew⟩
     case measure=>simp [intOf];omega
    ·have st:=mf_step ts i _ (if_neg h15)
     generalize ts.getD i 0=x at q0 b0 st
     have hb1:=hQ.cell 4 rfl i (.int .i64 x)
     have e2:(arr .i64 os).setIfInBounds i (.int .i64 x)=arr .i64 (mf ts (i+1)):=by rw [arr_set,hos,st]
     have HB1:=Lib.hid (hb1.cast (l':=[(w.heap.size,arr .i64 xs, 100),(w.heap.size+1,arr .i64 ys, 100),(w.heap.size+1+1,arr .i64 ze, 100),(w.heap.size+1+1+1,arr .i64 ts, 180),(go,arr .i64 (mf ts (i+1)), 100)]) (by rw [← e2];rfl))
     clear hb1 e2 hos hQ st ol
     go_wp2_with fail
     go_roundw
     case rel=>exact ⟨i+1,by omega,by go_num,_,rfl,HB1.out⟩
     case measure=>simp [intOf];omega
   ·obtain rfl:i=16:=by omega
    rw [mf_all] at hos
    rw [← hos] at HC1
    have HQ:=Lib.hid hQ
    have HOL:=Lib.hid ol
    clear hQ ol hos HB
    go_wp2_with (first|((with_reducible refine aS 57 ?_);refine wpList_load_part rfl 100 _ rfl (go) 0 _ 100 (0,0) _ (HQ.out.get 4 rfl) rfl .i64 os (arr_part _ _) Tryd.underlying100 rfl (el_i HOL.out) ?_)|((with_reducible show Calls _ _ #[.agg (arr _ os)] _ _);go_at_call 141; refine (HC1.out _).mono ?_;rintro e w6 ⟨rfl,hb6⟩;have HB6:=Lib.hid (HQ.out.kept hb6);clear hb6)|((with_reducible show Calls _ _ #[.agg (arr _ cs1)] _ _);go_at_call 141; refine (HC2.out _).mono ?_;rintro e w7 ⟨rfl,hb7⟩;have HB7:=Lib.hid (HB6.out.kept hb7);clear hb7)|((with_reducible refine aT 4 ?_);refine wpList_store_whole rfl 100 _ _ rfl (w.heap.size+1+1) _ _ 100 (HB7.out.get 2 rfl) rfl rfl (arr_len2 _ _ HRL.out HLze.out) (el_s HRL.out) (all_arr _ _) ?_;intro w8 hb8 hk8 hz8;have HB8:=Lib.hid (HB7.out.put 2 rfl hk8 hb8);clear hb8 hk8 hz8))
    (try simp only [Exit.inBlock,Exit.then])
    refine bodyPost_ret (results_cell_row rfl _ _ (w.heap.size+1+1) 100 _ (0,0) _ rfl (HB8.out.get 2 rfl) Tryd.underlying100 rfl (el_s HRL.out)) rfl ?_
    exact ⟨_,rfl,HF.out,HB8.out.below⟩
end Go.Proofs.YtodnkallpfkdiaaDoor.Rd
namespace Go.Proofs.YtodnkallpfkdiaaDoor.Rd
open Go.RowKit Lm Fp
theorem and1 (d:Int) (h:d = -1∨d=0):bits .and .i64 d 1 = -d:=by rcases h with rfl|rfl <;> decide
theorem toNat_ofInt64 (x:Int):((BitVec.ofInt 64 x).toNat:Int)=x % 18446744073709551616:=by
 rw [BitVec.toNat_ofInt]
 have:=Int.emod_nonneg x (show (18446744073709551616:Int)≠0 by decide)
 exact Int.toNat_of_nonneg this
theorem andFF (x:Int):bits .and .i64 x 65535=x % 65536:=by
 have h1:=toNat_ofInt64 x
 have h2:(BitVec.ofInt 64 (65535:Int)).toNat=65535:=by decide
 show IntKind.i64.wrap ((BitVec.ofInt 64 x &&& BitVec.ofInt 64 (65535:Int)).toNat:Int)=_
 rw [BitVec.toNat_and,h2,show 65535=2 ^ 16 - 1 from rfl,Nat.and_two_pow_sub_one_eq_mod,IntKind.wrap_i64]
 omega
theorem andF (x:Int):IntKind.u8.wrap (bits .and .i64 x 255)=x % 256:=by
 have h1:=toNat_ofInt64 x
 have h2:(BitVec.ofInt 64 (255:Int)).toNat=255:=by decide
 show IntKind.u8.wrap (IntKind.i64.wrap ((BitVec.ofInt 64 x &&& BitVec.ofInt 64 (255:Int)).toNat:Int))=_
 rw [BitVec.toNat_and,h2,show 255=2 ^ 8 - 1 from rfl,Nat.and_two_pow_sub_one_eq_mod,IntKind.wrap_i64,IntKind.wrap_u8]
 omega
def it (V:Nat):Nat→Nat
 | 0=>V
 | k+1=>less1 (it V k)
theorem it_three (V:Nat) (h:V < 65536 ^ 16):it V 3=V % p:=by
 have e:=lessen_eq V (Nat.lt_of_lt_of_le h (by decide))
 show less1 (less1 (less1 V))=_
 rw [e,less1,if_pos (Nat.mod_lt _ p_pos)]
theorem out_any (xs:List Int) (a:Nat) (w:World) (hx:El xs a) :
  Calls Tryd.prog 97 #[.agg (arr .i64 xs)] w fun e w'=>e = .returned (.agg (arr .u8 (nar (dig 256 32 a))))∧Below w.heap.size w w':=by
 obtain ⟨ze,hze⟩:∃ zs:List Int,zs=List.replicate 16 0:=⟨_,rfl⟩
 have HZze:Hid (∀ w,(zeroValue 100).run Tryd.prog w = .ok (.agg (arr .i64 ze)) w):=Lib.hid (by intro w;rw [hze];exact zero_el w)
 have HLze:Hid (ze.length=16):=Lib.hid (by rw [hze];rfl)
 obtain ⟨zn,hzn⟩:∃ zs:List Int,zs=List.replicate 32 0:=⟨_,rfl⟩
 have HZzn:Hid (∀ w,(zeroValue 23).run Tryd.prog w = .ok (.agg (arr .u8 zn)) w):=Lib.hid (by intro w;rw [hzn];exact zero_num w)
 have HLzn:Hid (zn.length=32):=Lib.hid (by rw [hzn];rfl)
 have HZ0:Hid (∀ us,zn=outs us 0):=Lib.hid (fun us=>by rw [hzn];exact outs_zero us)
 have HZ1:Hid (∀ ds:List Int,ze.set 0 (ds.getD 0 0)=sb ds 1):=Lib.hid (fun ds=>by rw [hze];exact sb_one ds)
 have HZG:Hid (ze.getD 0 0=0):=Lib.hid (by rw [hze];rfl)
 obtain ⟨f1,f2⟩:=four_pass hx
 have n1:Near (38 * 17) (carry xs):=carry_any xs 1048576 17 (getD_bound xs 1048576 hx.2.1 (by decide)) (by decide) (by decide)
 have n2:Near 38 (carry (carry xs)):=carry_twice _ _ n1 (by decide) (by decide)
 have n3:=carry_third _ n2
 have HC0:=Lib.hid (fun w=>carry_code xs w hx.1 (fun x h=>by have:=hx.2.1 x h;omega))
 have HC1:=Lib.hid (fun w=>carry_code (carry xs) w (carry_len _) (fun x h=>by have:=near_mem n1 (by decide) x h;omega))
 have HC2:=Lib.hid (fun w=>carry_code (carry (carry xs)) w (carry_len _) (fun x h=>by have:=near_mem n2 (by decide) x h;omega))
 have HC3:=Lib.hid (fun w=>carry_code (carry (carry (carry xs))) w (carry_len _) (fun x h=>by have:=near_mem n3 (by decide) x h;omega))
 obtain ⟨c4,h4⟩:∃ c,c=carry (carry (carry (carry xs))):=⟨_,rfl⟩
 rw [← h4] at f1 f2 HC3
 clear h4
 obtain ⟨c3,h3⟩:∃ c,c=carry (carry (carry xs)):=⟨_,rfl⟩
 rw [← h3] at HC2 HC3
 clear h3
 obtain ⟨c2,h2⟩:∃ c,c=carry (carry xs):=⟨_,rfl⟩
 rw [← h2] at HC1 HC2
 clear h2
 obtain ⟨c1,h1⟩:∃ c,c=carry xs:=⟨_,rfl⟩
 rw [← h1] at HC0 HC1
 clear h1 n1 n2 n3
 obtain ⟨c0,h0⟩:∃ c,c=xs:=⟨_,rfl⟩
 rw [← h0] at HC0 hx ⊢
 obtain ⟨V,hV⟩:=near0_nat f1
 have HN4:=Lib.hid f1
 have HV:=Lib.hid hV
 have hV2:=(near0_dig f1 V hV).2
 have HIT:Hid (it V 3=a):=Lib.hid (by
  rw [it_three V hV2]
  rw [hV,← Int.natCast_emod] at f2
  omega)
 have HL4:=Lib.hid f1.1
 have HL0:=Lib.hid hx.1
 have HS0:=Lib.hid (Blk.two w (arr .i64 c0) (arr .u8 zn) 100 23)
 clear hze hzn hx f1 f2 hV hV2 h0
 go_enter Tryd.func97, Tryd.ntmps97
 go_wp2_with (first|((with_reducible refine aS 2 ?_);refine wpList_alloc_row rfl 23 rfl _ (HZzn.out _) ?_)|((with_reducible refine aS 8 ?_);refine wpList_load_part rfl 100 _ rfl (w.heap.size) 0 _ 100 (0,0) _ (HS0.out.get 0 rfl) rfl .i64 c0 (arr_part _ _) Tryd.underlying100 rfl (el_i HL0.out) ?_)|((with_reducible show Calls _ _ #[.agg (arr _ c0)] _ _);go_at_call 141; refine (HC0.out _).mono ?_;rintro e w1 ⟨rfl,hb1⟩;have HB1:=Lib.hid (HS0.out.kept hb1);clear hb1)|((with_reducible show Calls _ _ #[.agg (arr _ c1)] _ _);go_at_call 141; refine (HC1.out _).mono ?_;rintro e w2 ⟨rfl,hb2⟩;have HB2:=Lib.hid (HB1.out.kept hb2);clear hb2)|((with_reducible show Calls _ _ #[.agg (arr _ c2)] _ _);go_at_call 141; refine (HC2.out _).mono ?_;rintro e w3 ⟨rfl,hb3⟩;have HB3:=Lib.hid (HB2.out.kept hb3);clear hb3)|((with_reducible show Calls _ _ #[.agg (arr _ c3)] _ _);go_at_call 141; refine (HC3.out _).mono ?_;rintro e w4 ⟨rfl,hb4⟩;have HB4:=Lib.hid (HB3.out.kept hb4);clear hb4)|((with_reducible refine aT 1 ?_);refine wpList_store_whole rfl 100 _ _ rfl (w.heap.size) _ _ 100 (HB4.out.get 0 rfl) rfl rfl (arr_len2 _ _ HL4.out HL0.out) (el_s HL4.out) (all_arr _ _) ?_;intro w5 hb5 hk5 hz5;have HB5:=Lib.hid (HB4.out.put 0 rfl hk5 hb5);clear hb5 hk5 hz5))
 go_loopw [3] (fun v wr=>∃ k:Nat,k≤3∧v = .int .i64 k∧∃ us:List Int,Near 0 us∧vi us=(it V k:Int)∧Blk w wr [(w.heap.size,arr .i64 us, 100),(w.heap.size+1,arr .u8 zn, 23)]) (fun v _=>3 - (intOf v).toNat)
 case atStart=>exact ⟨0,Nat.zero_le _,rfl,c4,HN4.out,HV.out,HB5.out⟩
 clear HS0 HB1 HB2 HB3 HB4 HB5
 case round =>
 obtain ⟨k,hk,rfl,us,un,uv,hB⟩:=hrel
 by_cases hlt:k < 3
 ·obtain ⟨ds,hds⟩:∃ ds,ds=dsub us:=⟨_,rfl⟩
  have HUN:=Lib.hid un
  have HUV:=Lib.hid uv
  have HDS:=Lib.hid hds
  have HCR:Hid (∀ j,j < 16 → -65536≤ds.getD j 0+cr ds j∧ds.getD j 0+cr ds j≤65535):=Lib.hid (fun j hj=>by
   have h1:=near0_get un j
   have h2:=P16_bound j
   have h3:=dsub_cr un j (by omega)
   rw [hds,dsub_get us j hj]
   omega)
  have b0:=near0_get un 0
  have e0:us.getD 0 0 - 65517=ds.getD 0 0:=by rw [hds,dsub_get us 0 (by decide)];rfl
  have hb1:=hB.alloc (arr .i64 ze) 100
  have q0:=arr_get' (hb1.get 0 rfl) 0 (by rw [un.1];decide)
  have q1:=arr_get' (hb1.get 2 rfl) 0 (by rw [HLze.out];decide)
  have q2:=free_blk (hb1.get 2 rfl) 0
  have HBM:Hid (Blk w (wr.alloc (.cells ((arr .i64 ze).setIfInBounds 0 (.int .i64 (us.getD 0 0 - 65517))) 100)) [(w.heap.size,arr .i64 us, 100),(w.heap.size+1,arr .u8 zn, 23),(wr.heap.size,arr .i64 (sb ds 1), 100)]):=Lib.hid ((hB.alloc ((arr .i64 ze).setIfInBounds 0 (.int .i64 (us.getD 0 0 - 65517))) 100).cast (by rw [arr_set,e0,HZ1.out ds];rfl))
  generalize us.getD 0 0=x at q0 b0 HBM
  clear hB un uv hds e0 hb1
  go_wp2_with (first|((with_reducible refine aS 4 ?_);refine wpList_alloc_row rfl 100 rfl _ (HZze.out _) ?_))
  generalize wr.heap.size=gm at HBM ⊢
  generalize wr.alloc (.cells ((arr .i64 ze).setIfInBounds 0 (.int .i64 (x - 65517))) 100)=wm at HBM ⊢
  clear q0 q1 q2 b0
  go_loopw [5] (fun v wq=>∃ j:Nat,j≤14∧v = .int .i64 ((j:Int)+1)∧∃ ms:List Int,ms=sb ds (j+1)∧Blk w wq [(w.heap.size,arr .i64 us, 100),(w.heap.size+1,arr .u8 zn, 23),(gm,arr .i64 ms, 100)]) (fun v _=>15 - (intOf v).toNat)
  case atStart=>exact ⟨0,Nat.zero_le _,rfl,_,rfl,HBM.out⟩
  case round =>
   obtain ⟨j,hj,rfl,ms,hms,hQ⟩:=hrel
   have ml:ms.length=16:=by rw [hms];exact tb_len _ _
   have mg:=sb_get ds j (by omega)
   have cb:=HCR.out j (by omega)
   by_cases hlo:j < 14
   ·have q0:=arr_get' (hQ.get 0 rfl) (j+1) (by rw [HUN.out.1];omega)
    have q1:=arr_get' (hQ.get 2 rfl) j (by rw [ml];omega)
    have q2:=arr_get' (hQ.get 2 rfl) (j+1) (by rw [ml];omega)
    have q3:=free_blk (hQ.get 2 rfl) (j+1)
    have q4:=free_blk (hQ.get 2 rfl) j
    have b0:=near0_get HUN.out (j+1)
    have e0:us.getD (j+1) 0 - 65535=ds.getD (j+1) 0:=by rw [HDS.out,dsub_get us (j+1) (by omega),P16_get (j+1) (by omega) (by omega)]
    rw [hms,mg] at q1
    have st:=fun x hx=>sb_step ds j x (by omega) hx
    generalize hx:ds.getD j 0+cr ds j=x at q1 st cb
    have st:=st x rfl
    rw [← e0] at st
    generalize us.getD (j+1) 0=y at q0 b0 st
    have ha:=and1 (x / 65536) (by omega)
    have hf:=andFF x
    have hb1:=(hQ.cell 2 rfl (j+1) (.int .i64 (y - 65535 - bits .and .i64 (x / 65536) 1))).cell 2 rfl j (.int .i64 (bits .and .i64 x 65535))
    have e2:((arr .i64 ms).setIfInBounds (j+1) (.int .i64 (y - 65535 - bits .and .i64 (x / 65536) 1))).setIfInBounds j (.int .i64 (bits .and .i64 x 65535))=arr .i64 (sb ds (j+1+1)):=by
     rw [ha,hf,arr_set,arr_set,hms,show y - 65535 - -(x / 65536)=y - 65535+x / 65536 by omega,st]
    have HB1:=Lib.hid ((hb1.drew).cast (l':=[(w.heap.size,arr .i64 us, 100),(w.heap.size+1,arr .u8 zn, 23),(gm,arr .i64 (sb ds (j+1+1)), 100)]) (by rw [← e2];rfl))
    have hbd:bits .and .i64 (x / 65536) 1=0∨bits .and .i64 (x / 65536) 1=1:=by rw [ha];omega
    clear hb1 e2 hms hQ st ml mg hx ha hf e0
    go_wp2_with fail
    go_region
    go_wp2_with fail
    go_roundw
    case rel=>exact ⟨j+1,by omega,by go_num,_,rfl,HB1.out⟩
    case measure=>simp [intOf];omega
   ·obtain rfl:j=14:=by omega
    have q0:=arr_get' (hQ.get 0 rfl) 15 (by rw [HUN.out.1];omega)
    have q1:=arr_get' (hQ.get 2 rfl) 14 (by rw [ml];omega)
    have q2:=arr_get' (hQ.get 2 rfl) 15 (by rw [ml];omega)
    have q3:=free_blk (hQ.get 2 rfl) 15
    have q4:=free_blk (hQ.get 2 rfl) 14
    have b0:=near0_get HUN.out 15
    have e0:us.getD 15 0 - 32767=ds.getD 15 0:=by rw [HDS.out,dsub_get us 15 (by omega)];rfl
    rw [hms,mg] at q1
    have st:=fun x hx=>sb_step ds 14 x (by omega) hx
    have sd:=sub_dec HUN.out (it V k) HUV.out
    rw [← HDS.out,← e0] at sd
    have c15:cr ds 15=(ds.getD 14 0+cr ds 14) / 65536:=rfl
    rw [c15] at sd
    generalize hx:ds.getD 14 0+cr ds 14=x at q1 st cb sd
    have st:=st x rfl
    rw [show (14+1:Nat)=15 from rfl,← e0,show (14+2:Nat)=16 from rfl,sb_last] at st
    generalize us.getD 15 0=y at q0 b0 st sd
    have ha:=and1 (x / 65536) (by omega)
    have hf:=andFF x
    have hb1:=(hQ.cell 2 rfl 15 (.int .i64 (y - 32767 - bits .and .i64 (x / 65536) 1))).cell 2 rfl 14 (.int .i64 (bits .and .i64 x 65535))
    have e2:((arr .i64 ms).setIfInBounds 15 (.int .i64 (y - 32767 - bits .and .i64 (x / 65536) 1))).setIfInBounds 14 (.int .i64 (bits .and .i64 x 65535))=arr .i64 (mid ds 15):=by
     rw [ha,hf,arr_set,arr_set,hms,show y - 32767 - -(x / 65536)=y - 32767+x / 65536 by omega,st]
    have HB1:=Lib.hid (hb1.cast (l':=[(w.heap.size,arr .i64 us, 100),(w.heap.size+1,arr .u8 zn, 23),(gm,arr .i64 (mid ds 15), 100)]) (by rw [← e2];rfl))
    obtain ⟨mm,hmm⟩:∃ m,m=mid ds 15:=⟨_,rfl⟩
    rw [← hmm] at HB1 sd
    have HML:Hid (mm.length=16):=Lib.hid (by rw [hmm];exact tb_len _ _)
    have hbd:bits .and .i64 (x / 65536) 1=0∨bits .and .i64 (x / 65536) 1=1:=by rw [ha];omega
    have hsg:y - 32767 - bits .and .i64 (x / 65536) 1=y - 32767+x / 65536:=by rw [ha];omega
    rcases sd with ⟨s1,s2⟩|⟨s1,s2,s3,s4⟩
    ·have hge:¬ 0≤y - 32767 - bits .and .i64 (x / 65536) 1:=by omega
     have HUW:Hid (vi us=(it V (k+1):Int)):=Lib.hid (by rw [HUV.out,it,less1,if_pos s2])
     clear hb1 e2 hms hQ st ml mg hx ha hf e0 c15 s1 s2 hmm hsg
     go_wp2_with fail
     go_roundw
     case rel=>exact ⟨k+1,by omega,by go_num,us,HUN.out,HUW.out,HB1.out.less 2⟩
     case measure=>simp [intOf];omega
    ·have hge:0≤y - 32767 - bits .and .i64 (x / 65536) 1:=by omega
     have HUM:=Lib.hid s3
     have HUW:Hid (vi mm=(it V (k+1):Int)):=Lib.hid (by rw [s4,it,less1,if_neg (by omega)])
     have HUL:=Lib.hid HUN.out.1
     clear hb1 e2 hms hQ st ml mg hx ha hf e0 c15 s1 s2 s3 s4 hmm hsg
     go_wp2_with (first|((with_reducible refine aS 62 ?_);refine wpList_load_part rfl 100 _ rfl (gm) 0 _ 100 (0,0) _ (HB1.out.get 2 rfl) rfl .i64 mm (arr_part _ _) Tryd.underlying100 rfl (el_i HML.out) ?_)|((with_reducible refine aT 1 ?_);refine wpList_store_whole rfl 100 _ _ rfl (w.heap.size) _ _ 100 (HB1.out.get 0 rfl) rfl rfl (arr_len2 _ _ HML.out HUL.out) (el_s HML.out) (all_arr _ _) ?_;intro w7 hb7 hk7 hz7;have HB7:=Lib.hid (HB1.out.put 0 rfl hk7 hb7);clear hb7 hk7 hz7))
     go_roundw
     case rel=>exact ⟨k+1,by omega,by go_num,mm,HUM.out,HUW.out,HB7.out.less 2⟩
     case measure=>simp [intOf];omega
 ·obtain rfl:k=3:=by omega
  rw [HIT.out] at uv
  obtain ⟨d1,d2⟩:=near0_dig un a uv
  have HUN:=Lib.hid un
  have HB:=Lib.hid (hB.alloc (arr .u8 zn) 23)
  have HOA:Hid (outs us 16=nar (dig 256 32 a)):=Lib.hid (by rw [d1];exact outs_all a)
  obtain ⟨oa,hoa⟩:∃ o,o=nar (dig 256 32 a):=⟨_,rfl⟩
  rw [← hoa] at HOA
  have HOE:=Lib.hid hoa
  clear hB un uv d1 d2 hoa
  go_wp2_with (first|((with_reducible refine aS 6 ?_);refine wpList_alloc_row rfl 23 rfl _ (HZzn.out _) ?_))
  generalize wr.heap.size=gn at HB ⊢
  go_loopw [7] (fun v wq=>∃ i:Nat,i≤16∧v = .int .i64 i∧∃ os:List Int,os=outs us i∧Blk w wq [(w.heap.size,arr .i64 us, 100),(w.heap.size+1,arr .u8 zn, 23),(gn,arr .u8 os, 23)]) (fun v _=>16 - (intOf v).toNat)
  case atStart=>exact ⟨0,Nat.zero_le _,rfl,_,HZ0.out us,HB.out⟩
  case round =>
   obtain ⟨i,hi,rfl,os,hos,hQ⟩:=hrel
   have ol:os.length=32:=by rw [hos];exact tb_len _ _
   by_cases hlo:i < 16
   ·have q0:=arr_get' (hQ.get 0 rfl) i (by rw [HUN.out.1];omega)
    have q3:=free_blk (hQ.get 2 rfl) (2 * i)
    have q4:=free_blk (hQ.get 2 rfl) (2 * i+1)
    have q5:=arr_get' (hQ.get 2 rfl) (2 * i) (by rw [ol];omega)
    have q6:=arr_get' (hQ.get 2 rfl) (2 * i+1) (by rw [ol];omega)
    have b0:=near0_get HUN.out i
    have st:=fun x hx=>outs_step us i x hx
    generalize hx:us.getD i 0=x at q0 b0 st
    have st:=st x rfl
    have a0:=andF x
    rw [IntKind.wrap_u8] at a0
    have a1:=andF (x / 256)
    rw [IntKind.wrap_u8] at a1
    have hne:=hQ.ne 0 2 rfl rfl (by decide)
    have hne':=hQ.ne 2 0 rfl rfl (by decide)
    have hb1:=(hQ.cell 2 rfl (2 * i) (.int .u8 (bits .and .i64 x 255 % 256))).cell 2 rfl (2 * i+1) (.int .u8 (bits .and .i64 (x / 256) 255 % 256))
    have e2:((arr .u8 os).setIfInBounds (2 * i) (.int .u8 (bits .and .i64 x 255 % 256))).setIfInBounds (2 * i+1) (.int .u8 (bits .and .i64 (x / 256) 255 % 256))=arr .u8 (outs us (i+1)):=by rw [a0,a1,arr_set,arr_set,hos,st]
    have HB1:=Lib.hid (hb1.cast (l':=[(w.heap.size,arr .i64 us, 100),(w.heap.size+1,arr .u8 zn, 23),(gn,arr .u8 (outs us (i+1)), 23)]) (by rw [← e2];rfl))
    have m1:(2 * (i:Int)).toNat=2 * i:=by omega
    have m2:(2 * (i:Int)+1).toNat=2 * i+1:=by omega
    clear hb1 e2 hos hQ st ol hx a0 a1
    go_wp2_with fail
    go_roundw
    case rel=>exact ⟨i+1,by omega,by go_num,_,rfl,HB1.out⟩
    case measure=>simp [intOf];omega
   ·obtain rfl:i=16:=by omega
    rw [HOA.out] at hos
    subst hos
    have HQ:=Lib.hid hQ
    have HOL:=Lib.hid ol
    clear hQ ol
    go_wp2_with (first|((with_reducible refine aS 85 ?_);refine wpList_load_part rfl 23 _ rfl (gn) 0 _ 23 (0,0) _ (HQ.out.get 2 rfl) rfl .u8 os (arr_part _ _) Tryd.underlying23 rfl (num_i HOL.out) ?_)|((with_reducible refine aT 2 ?_);refine wpList_store_whole rfl 23 _ _ rfl (w.heap.size+1) _ _ 23 (HQ.out.get 1 rfl) rfl rfl (arr_len2 _ _ HOL.out HLzn.out) (num_s HOL.out) (all_arr _ _) ?_;intro w8 hb8 hk8 hz8;have HB8:=Lib.hid (HQ.out.put 1 rfl hk8 hb8);clear hb8 hk8 hz8))
    (try simp only [Exit.inBlock,Exit.then])
    refine bodyPost_ret (results_cell_row rfl _ _ (w.heap.size+1) 23 _ (0,0) _ rfl (HB8.out.get 1 rfl) Tryd.underlying23 rfl (num_s HOL.out)) rfl ?_
    exact ⟨by rw [HOE.out],HB8.out.below⟩
end Go.Proofs.YtodnkallpfkdiaaDoor.Rd
namespace Go.Proofs.YtodnkallpfkdiaaDoor.Rd
open Go.RowKit Lm Fp
def fills (i:Nat):List Int:=tb 32 fun j=>if j < i then 255 else 0
theorem fills_zero:List.replicate 32 0=fills 0:=by decide
theorem fills_step (i:Nat):(fills i).set i 255=fills (i+1):=by
 rw [fills,tb_set]
 refine tb_congr _ _ _ fun j _=>?_
 by_cases e:j=i
 ·subst e;rw [if_pos rfl,if_pos (show j < j+1 by omega)]
 ·rw [if_neg e]
  by_cases e3:j < i
  ·rw [if_pos e3,if_pos (show j < i+1 by omega)]
  ·rw [if_neg e3,if_neg (show ¬ j < i+1 by omega)]
theorem most_eq:((fills 32).set 31 127).set 0 235=nar (dig 256 32 (p - 2)):=by decide +kernel
theorem eighth_eq':((fills 32).set 0 254).set 31 15=nar (dig 256 32 eighth):=by decide +kernel
theorem most_any (w:World) :
  Calls Tryd.prog 140 #[.int .i64 21] w fun e w'=>e = .returned (.agg (arr .u8 (nar (dig 256 32 (p - 2)))))∧Below w.heap.size w w':=by
 obtain ⟨zn,hzn⟩:∃ zs:List Int,zs=List.replicate 32 0:=⟨_,rfl⟩
 have HZzn:Hid (∀ w,(zeroValue 23).run Tryd.prog w = .ok (.agg (arr .u8 zn)) w):=Lib.hid (by intro w;rw [hzn];exact zero_num w)
 have HLzn:Hid (zn.length=32):=Lib.hid (by rw [hzn];rfl)
 have HZ0:Hid (zn=fills 0):=Lib.hid (by rw [hzn];exact fills_zero)
 have HS0:=Lib.hid (Blk.two w (arr .u8 zn) (arr .u8 zn) 23 23)
 obtain ⟨oa,hoa⟩:∃ o,o=nar (dig 256 32 (p - 2)):=⟨_,rfl⟩
 have HOE:=Lib.hid hoa
 have HFE:Hid (((fills 32).set 31 127).set 0 235=oa):=Lib.hid (by rw [hoa];exact most_eq)
 have HOL:Hid (oa.length=32):=Lib.hid (by rw [hoa,nar_len,dig_len])
 clear hzn hoa
 go_enter Tryd.func140, Tryd.ntmps140
 go_wp2_with (first|((with_reducible refine aS 2 ?_);refine wpList_alloc_row rfl 23 rfl _ (HZzn.out _) ?_)|((with_reducible refine aS 3 ?_);refine wpList_alloc_row rfl 23 rfl _ (HZzn.out _) ?_))
 go_loopw [4] (fun v wr=>∃ i:Nat,i≤32∧v = .int .i64 i∧∃ os:List Int,os=fills i∧Blk w wr [(w.heap.size,arr .u8 zn, 23),(w.heap.size+1,arr .u8 os, 23)]) (fun v _=>32 - (intOf v).toNat)
 case atStart=>exact ⟨0,Nat.zero_le _,rfl,_,HZ0.out,HS0.out⟩
 clear HS0 HZ0
 case round =>
 obtain ⟨i,hi,rfl,os,hos,hB⟩:=hrel
 have ol:os.length=32:=by rw [hos];exact tb_len _ _
 by_cases hlt:i < 32
 ·have q0:=arr_get' (hB.get 1 rfl) i (by rw [ol];exact hlt)
  have q1:=free_blk (hB.get 1 rfl) i
  have hb1:=hB.cell 1 rfl i (.int .u8 255)
  have e2:(arr .u8 os).setIfInBounds i (.int .u8 255)=arr .u8 (fills (i+1)):=by rw [arr_set,hos,fills_step]
  have HB1:=Lib.hid (hb1.cast (l':=[(w.heap.size,arr .u8 zn, 23),(w.heap.size+1,arr .u8 (fills (i+1)), 23)]) (by rw [← e2];rfl))
  clear hb1 e2 hos hB ol
  go_wp2_with fail
  go_roundw
  case rel=>exact ⟨i+1,by omega,by go_num,_,rfl,HB1.out⟩
  case measure=>simp [intOf];omega
 ·obtain rfl:i=32:=by omega
  have q0:=arr_get' (hB.get 1 rfl) 31 (by rw [ol];decide)
  have q1:=free_blk (hB.get 1 rfl) 31
  have q2:=arr_get' (hB.get 1 rfl) 0 (by rw [ol];decide)
  have q3:=free_blk (hB.get 1 rfl) 0
  have hb1:=(hB.cell 1 rfl 31 (.int .u8 127)).cell 1 rfl 0 (.int .u8 235)
  have e2:((arr .u8 os).setIfInBounds 31 (.int .u8 127)).setIfInBounds 0 (.int .u8 235)=arr .u8 oa:=by rw [arr_set,arr_set,hos,HFE.out]
  have HB1:=Lib.hid (hb1.cast (l':=[(w.heap.size,arr .u8 zn, 23),(w.heap.size+1,arr .u8 oa, 23)]) (by rw [← e2];rfl))
  clear hb1 e2 hos hB ol
  go_wp2_with (first|((with_reducible refine aS 16 ?_);refine wpList_load_part rfl 23 _ rfl (w.heap.size+1) 0 _ 23 (0,0) _ (HB1.out.get 1 rfl) rfl .u8 oa (arr_part _ _) Tryd.underlying23 rfl (num_i HOL.out) ?_)|((with_reducible refine aT 2 ?_);refine wpList_store_whole rfl 23 _ _ rfl (w.heap.size) _ _ 23 (HB1.out.get 0 rfl) rfl rfl (arr_len2 _ _ HOL.out HLzn.out) (num_s HOL.out) (all_arr _ _) ?_;intro w8 hb8 hk8 hz8;have HB8:=Lib.hid (HB1.out.put 0 rfl hk8 hb8);clear hb8 hk8 hz8))
  (try simp only [Exit.inBlock,Exit.then])
  refine bodyPost_ret (results_cell_row rfl _ _ (w.heap.size) 23 _ (0,0) _ rfl (HB8.out.get 0 rfl) Tryd.underlying23 rfl (num_s HOL.out)) rfl ?_
  exact ⟨by rw [HOE.out],HB8.out.below⟩
theorem eighth_any (w:World) :
  Calls Tryd.prog 142 #[] w fun e w'=>e = .returned (.agg (arr .u8 (nar (dig 256 32 (eighth)))))∧Below w.heap.size w w':=by
 obtain ⟨zn,hzn⟩:∃ zs:List Int,zs=List.replicate 32 0:=⟨_,rfl⟩
 have HZzn:Hid (∀ w,(zeroValue 23).run Tryd.prog w = .ok (.agg (arr .u8 zn)) w):=Lib.hid (by intro w;rw [hzn];exact zero_num w)
 have HLzn:Hid (zn.length=32):=Lib.hid (by rw [hzn];rfl)
 have HZ0:Hid (zn=fills 0):=Lib.hid (by rw [hzn];exact fills_zero)
 have HS0:=Lib.hid (Blk.two w (arr .u8 zn) (arr .u8 zn) 23 23)
 obtain ⟨oa,hoa⟩:∃ o,o=nar (dig 256 32 (eighth)):=⟨_,rfl⟩
 have HOE:=Lib.hid hoa
 have HFE:Hid (((fills 32).set 0 254).set 31 15=oa):=Lib.hid (by rw [hoa];exact eighth_eq')
 have HOL:Hid (oa.length=32):=Lib.hid (by rw [hoa,nar_len,dig_len])
 clear hzn hoa
 go_enter Tryd.func142, Tryd.ntmps142
 go_wp2_with (first|((with_reducible refine aS 0 ?_);refine wpList_alloc_row rfl 23 rfl _ (HZzn.out _) ?_)|((with_reducible refine aS 1 ?_);refine wpList_alloc_row rfl 23 rfl _ (HZzn.out _) ?_))
 go_loopw [2] (fun v wr=>∃ i:Nat,i≤32∧v = .int .i64 i∧∃ os:List Int,os=fills i∧Blk w wr [(w.heap.size,arr .u8 zn, 23),(w.heap.size+1,arr .u8 os, 23)]) (fun v _=>32 - (intOf v).toNat)
 case atStart=>exact ⟨0,Nat.zero_le _,rfl,_,HZ0.out,HS0.out⟩
 clear HS0 HZ0
 case round =>
 obtain ⟨i,hi,rfl,os,hos,hB⟩:=hrel
 have ol:os.length=32:=by rw [hos];exact tb_len _ _
 by_cases hlt:i < 32
 ·have q0:=arr_get' (hB.get 1 rfl) i (by rw [ol];exact hlt)
  have q1:=free_blk (hB.get 1 rfl) i
  have hb1:=hB.cell 1 rfl i (.int .u8 255)
  have e2:(arr .u8 os).setIfInBounds i (.int .u8 255)=arr .u8 (fills (i+1)):=by rw [arr_set,hos,fills_step]
  have HB1:=Lib.hid (hb1.cast (l':=[(w.heap.size,arr .u8 zn, 23),(w.heap.size+1,arr .u8 (fills (i+1)), 23)]) (by rw [← e2];rfl))
  clear hb1 e2 hos hB ol
  go_wp2_with fail
  go_roundw
  case rel=>exact ⟨i+1,by omega,by go_num,_,rfl,HB1.out⟩
  case measure=>simp [intOf];omega
 ·obtain rfl:i=32:=by omega
  have q0:=arr_get' (hB.get 1 rfl) 0 (by rw [ol];decide)
  have q1:=free_blk (hB.get 1 rfl) 0
  have q2:=arr_get' (hB.get 1 rfl) 31 (by rw [ol];decide)
  have q3:=free_blk (hB.get 1 rfl) 31
  have hb1:=(hB.cell 1 rfl 0 (.int .u8 254)).cell 1 rfl 31 (.int .u8 15)
  have e2:((arr .u8 os).setIfInBounds 0 (.int .u8 254)).setIfInBounds 31 (.int .u8 15)=arr .u8 oa:=by rw [arr_set,arr_set,hos,HFE.out]
  have HB1:=Lib.hid (hb1.cast (l':=[(w.heap.size,arr .u8 zn, 23),(w.heap.size+1,arr .u8 oa, 23)]) (by rw [← e2];rfl))
  clear hb1 e2 hos hB ol
  go_wp2_with (first|((with_reducible refine aS 11 ?_);refine wpList_load_part rfl 23 _ rfl (w.heap.size+1) 0 _ 23 (0,0) _ (HB1.out.get 1 rfl) rfl .u8 oa (arr_part _ _) Tryd.underlying23 rfl (num_i HOL.out) ?_)|((with_reducible refine aT 0 ?_);refine wpList_store_whole rfl 23 _ _ rfl (w.heap.size) _ _ 23 (HB1.out.get 0 rfl) rfl rfl (arr_len2 _ _ HOL.out HLzn.out) (num_s HOL.out) (all_arr _ _) ?_;intro w8 hb8 hk8 hz8;have HB8:=Lib.hid (HB1.out.put 0 rfl hk8 hb8);clear hb8 hk8 hz8))
  (try simp only [Exit.inBlock,Exit.then])
  refine bodyPost_ret (results_cell_row rfl _ _ (w.heap.size) 23 _ (0,0) _ rfl (HB8.out.get 0 rfl) Tryd.underlying23 rfl (num_s HOL.out)) rfl ?_
  exact ⟨by rw [HOE.out],HB8.out.below⟩
theorem range_kept {T:Nat→Prop} {a b:World} {g o:Nat} {xs:List Value} (h:a.rangeAt g o xs) (k:Kept T a b) (hT:¬ T g):b.rangeAt g o xs:=fun j v hj=>k.cellX (h j v hj) hT
theorem num_beq {a b:Nat} (ha:a < p) (hb:b < p):(nar (dig 256 32 a) == nar (dig 256 32 b))=decide (a=b):=by
 have hp:p < 256 ^ 32:=by decide +kernel
 by_cases e:a=b
 ·subst e;simp
 ·rw [decide_eq_false e,beq_eq_false_iff_ne]
  intro h
  have h1:=val_dig 256 32 a
  have h2:=val_dig 256 32 b
  have h3:dig 256 32 a=dig 256 32 b:=by
   have:=congrArg (List.map Int.toNat) h
   have e:∀ l:List Nat,(nar l).map Int.toNat=l:=fun l=>by rw [nar,List.map_map];exact List.map_id l
   rwa [e,e] at this
  rw [h3,h2,Nat.mod_eq_of_lt (by omega),Nat.mod_eq_of_lt (by omega)] at h1
  exact e h1.symm
/-- '==' of two arrays of integers, as an operation. -/
theorem exec_eql_arr {P:Program} {o:Oper} {ev:Operand→Value} {w:World} (t ty:TypeId) (e:TypeId) (x y:Operand) (ho:o.op = .binOp .eql t x y ty) (n:Nat) (k k':IntKind)
  (ht:P.underlying t=some (.array n e)) (he:P.underlying e=some (.int k')) (hsz:∀ w,(sizeOf e).run P w = .ok 1 w) (hm:P.eqGuardType P.depth t=false)
  (xs ys:List Int) (hx:ev x = .agg (arr k xs)) (hy:ev y = .agg (arr k ys)) (lx:xs.length=n) (ly:ys.length=n) (b:Bool) (hb:(xs == ys)=b) :
  (execOp ev o).run P w = .ok (.value (.bool b)) w:=by
 simp only [execOp,ho,hx,hy,Sem.run_bind,run_eqGuard_agg w .eql t x y _ _ hm,Result.andThen_ok,run_eql_arr w t e n k k' ht he hsz xs ys lx ly,hb]
 rfl
theorem bit_byte (v k:Nat):v / 256 ^ (k / 8) % 256 / 2 ^ (k % 8) % 2=v / 2 ^ k % 2:=by
 have e:2 ^ k=256 ^ (k / 8) * 2 ^ (k % 8):=by
  rw [show (256:Nat)=2 ^ 8 by rfl,← Nat.pow_mul,← Nat.pow_add]
  congr 1
  omega
 rw [e,← Nat.div_div_eq_div_mul]
 generalize v / 256 ^ (k / 8)=y
 have h8:k % 8 < 8:=Nat.mod_lt _ (by decide)
 generalize k % 8=s at h8 ⊢
 have hB:(256:Nat)=2 ^ s * (2 * 2 ^ (7 - s)):=by
  rw [show (256:Nat)=2 ^ 8 by rfl,← Nat.pow_succ',← Nat.pow_add]
  congr 1
  omega
 rw [hB,Nat.mod_mul_right_div_self,Nat.mod_mul_right_mod]
theorem and1u (y:Nat) (h:y < 256):bits .and .u8 (y:Int) 1=((y % 2:Nat):Int):=by
 have e:y &&& 1=y % 2:=Nat.and_two_pow_sub_one_eq_mod y 1
 have h1:(BitVec.ofInt 8 (y:Int)).toNat=y:=by rw [BitVec.ofInt_natCast,BitVec.toNat_ofNat];exact Nat.mod_eq_of_lt (by omega)
 have h2:(BitVec.ofInt 8 (1:Int)).toNat=1:=by decide
 show IntKind.u8.wrap ((BitVec.ofInt 8 (y:Int) &&& BitVec.ofInt 8 (1:Int)).toNat:Int)=_
 rw [BitVec.toNat_and,h1,h2,e,IntKind.wrap_u8]
 omega
/-- A bit as the code reads it. -/
theorem code_bit (es:List Int) (v k:Nat) (he:es=nar (dig 256 32 v)) (hk:k < 256):∃ y:Nat,es.getD (k / 8) 0=y∧y < 256∧bits .and .u8 ((y:Int) / 2 ^ (k % 8)) 1=((v / 2 ^ k % 2:Nat):Int):=by
 refine ⟨v / 256 ^ (k / 8) % 256,by rw [he,nar_get,dig_get _ _ _ _ (by omega)],Nat.mod_lt _ (by decide),?_⟩
 have e1:((v / 256 ^ (k / 8) % 256:Nat):Int) / 2 ^ (k % 8)=((v / 256 ^ (k / 8) % 256 / 2 ^ (k % 8):Nat):Int):=by
  rw [Int.natCast_ediv,Int.natCast_pow];rfl
 rw [e1,and1u _ (Nat.lt_of_le_of_lt (Nat.div_le_self _ _) (Nat.mod_lt _ (by decide))),bit_byte]
theorem pow_any (xs:List Int) (a v:Nat) (w:World) (hx:El xs a) :
  Calls Tryd.prog 139 #[.agg (arr .i64 xs), .agg (arr .u8 (nar (dig 256 32 v)))] w fun e w'=>∃ zs,e = .returned (.agg (arr .i64 zs))∧El zs (fpow a v 256)∧Below w.heap.size w w':=by
 obtain ⟨ze,hze⟩:∃ zs:List Int,zs=List.replicate 16 0:=⟨_,rfl⟩
 have HZze:Hid (∀ w,(zeroValue 100).run Tryd.prog w = .ok (.agg (arr .i64 ze)) w):=Lib.hid (by intro w;rw [hze];exact zero_el w)
 have HLze:Hid (ze.length=16):=Lib.hid (by rw [hze];rfl)
 obtain ⟨es,hes⟩:∃ x,x=nar (dig 256 32 v):=⟨_,rfl⟩
 rw [← hes]
 have HES:=Lib.hid hes
 have HEL:Hid (es.length=32):=Lib.hid (by rw [hes,nar_len,dig_len])
 have HX:=Lib.hid hx
 have HXL:=Lib.hid hx.1
 have HS0:=Lib.hid (Blk.three w (arr .i64 xs) (arr .u8 es) (arr .i64 ze) 100 23 100)
 clear hze hes hx
 go_enter Tryd.func139, Tryd.ntmps139
 go_wp2_with (first|((with_reducible refine aS 4 ?_);refine wpList_alloc_row rfl 100 rfl _ (HZze.out _) ?_)|((with_reducible show Calls _ _ #[.int _ _] _ _);go_at_call 101; refine (one_any 1 _ (by decide)).mono ?_;rintro e w1 ⟨z1,rfl,h1,hb1⟩;have HZ1:=Lib.hid h1;have HL1:=Lib.hid h1.1;have HB1:=Lib.hid (HS0.out.kept hb1);clear h1 hb1)|((with_reducible refine aS 5 ?_);refine wpList_alloc_row rfl 100 rfl _ (HZze.out _) ?_;have HB2:=Lib.hid (HB1.out.alloc (arr .i64 ze) 100);generalize w1.heap.size=gx at HB2 ⊢)|((with_reducible refine aT 5 ?_);refine wpList_store_whole rfl 100 _ _ rfl (gx) _ _ 100 (HB2.out.get 3 rfl) rfl rfl (arr_len2 _ _ HL1.out HLze.out) (el_s HL1.out) (all_arr _ _) ?_;intro w3 hb3 hk3 hz3;have HB3:=Lib.hid (HB2.out.put 3 rfl hk3 hb3);clear hb3 hk3 hz3))
 go_loopw [6] (fun v' wr=>∃ n:Nat,n≤256∧v' = .int .i64 (255 - (n:Int))∧∃ cs:List Int,El cs (fpow a v n)∧Blk w wr [(w.heap.size,arr .i64 xs, 100),(w.heap.size+1,arr .u8 es, 23),(w.heap.size+1+1,arr .i64 ze, 100),(gx,arr .i64 cs, 100)]) (fun v' _=>(intOf v'+1).toNat)
 case atStart=>exact ⟨0,Nat.zero_le _,rfl,_,HZ1.out,HB3.out⟩
 clear HS0 HB1 HB2 HB3
 case round =>
 obtain ⟨n,hn,rfl,cs,hcs,hB⟩:=hrel
 by_cases hlt:n < 256
 ·obtain ⟨i,hi⟩:∃ i:Nat,i+n=255:=⟨255 - n,by omega⟩
  have hz:(255:Int) - (n:Int)=(i:Int):=by omega
  have hi2:i < 256:=by omega
  obtain ⟨y,hy,hy2,hbit⟩:=code_bit es v i HES.out hi2
  have q0:=arr_get' (hB.get 1 rfl) (i / 8) (by rw [HEL.out];omega)
  rw [hy] at q0
  have hpn:=pow_next a v n
  rw [show 255 - n=i by omega] at hpn
  rw [hz]
  have HCS:=Lib.hid hcs
  have HCL:=Lib.hid hcs.1
  have HB:=Lib.hid hB
  have HI:=Lib.hid hi
  have HY:=Lib.hid hy
  clear hcs hB hy hz hi
  have q9:0≤(i:Int):=by omega
  rcases (show v / 2 ^ i % 2=0∨v / 2 ^ i % 2=1 by omega) with hb|hb
  ·rw [hb] at hbit
   rw [if_neg (by omega)] at hpn
   have hbit0:bits .and .u8 ((y:Int) / 2 ^ (i % 8)) 1=0:=hbit
   have HPN:=Lib.hid hpn
   clear hpn hb hbit
   go_wp2_with (first|((with_reducible refine aS 12 ?_);refine wpList_load_part rfl 100 _ rfl (gx) 0 _ 100 (0,0) _ (HB.out.get 3 rfl) rfl .i64 cs (arr_part _ _) Tryd.underlying100 rfl (el_i HCL.out) ?_)|((with_reducible refine aS 13 ?_);refine wpList_load_part rfl 100 _ rfl (gx) 0 _ 100 (0,0) _ (HB.out.get 3 rfl) rfl .i64 cs (arr_part _ _) Tryd.underlying100 rfl (el_i HCL.out) ?_)|((with_reducible show Calls _ _ #[.agg (arr _ cs), .agg (arr _ cs)] _ _);go_at_call 98; refine (mul_any _ _ _ _ _ HCS.out HCS.out).mono ?_;rintro e w5 ⟨z5,rfl,h5,hb5⟩;have HZ5:=Lib.hid h5;have HL5:=Lib.hid h5.1;have HB5:=Lib.hid (HB.out.kept hb5);clear h5 hb5)|((with_reducible refine aT 5 ?_);refine wpList_store_whole rfl 100 _ _ rfl (gx) _ _ 100 (HB5.out.get 3 rfl) rfl rfl (arr_len2 _ _ HL5.out HCL.out) (el_s HL5.out) (all_arr _ _) ?_;intro w6 hb6 hk6 hz6;have HB6:=Lib.hid (HB5.out.put 3 rfl hk6 hb6);have q1:=arr_get' (HB6.out.get 1 rfl) (i / 8) (by rw [HEL.out];omega);rw [HY.out] at q1;clear hb6 hk6 hz6))
   go_roundw
   case rel =>
    have e:=HI.out
    exact ⟨n+1,by omega,by congr 1;omega,_,by rw [HPN.out];exact HZ5.out,HB6.out⟩
   case measure=>simp [intOf]
  ·rw [if_pos hb] at hpn
   rw [hb] at hbit
   have hbit1:bits .and .u8 ((y:Int) / 2 ^ (i % 8)) 1=1:=hbit
   have HPN:=Lib.hid hpn
   clear hpn hb hbit
   go_wp2_with (first|((with_reducible refine aS 12 ?_);refine wpList_load_part rfl 100 _ rfl (gx) 0 _ 100 (0,0) _ (HB.out.get 3 rfl) rfl .i64 cs (arr_part _ _) Tryd.underlying100 rfl (el_i HCL.out) ?_)|((with_reducible refine aS 13 ?_);refine wpList_load_part rfl 100 _ rfl (gx) 0 _ 100 (0,0) _ (HB.out.get 3 rfl) rfl .i64 cs (arr_part _ _) Tryd.underlying100 rfl (el_i HCL.out) ?_)|((with_reducible show Calls _ _ #[.agg (arr _ cs), .agg (arr _ cs)] _ _);go_at_call 98; refine (mul_any _ _ _ _ _ HCS.out HCS.out).mono ?_;rintro e w5 ⟨z5,rfl,h5,hb5⟩;have HZ5:=Lib.hid h5;have HL5:=Lib.hid h5.1;have HB5:=Lib.hid (HB.out.kept hb5);clear h5 hb5)|(with_reducible refine aT 5 (x:=(Operand.tmp 14)) ?_);((with_reducible refine aT 5 ?_);refine wpList_store_whole rfl 100 _ _ rfl (gx) _ _ 100 (HB5.out.get 3 rfl) rfl rfl (arr_len2 _ _ HL5.out HCL.out) (el_s HL5.out) (all_arr _ _) ?_;intro w6 hb6 hk6 hz6;have HB6:=Lib.hid (HB5.out.put 3 rfl hk6 hb6);have q1:=arr_get' (HB6.out.get 1 rfl) (i / 8) (by rw [HEL.out];omega);rw [HY.out] at q1;clear hb6 hk6 hz6)|((with_reducible refine aS 25 ?_);refine wpList_load_part rfl 100 _ rfl (gx) 0 _ 100 (0,0) _ (HB6.out.get 3 rfl) rfl .i64 z5 (arr_part _ _) Tryd.underlying100 rfl (el_i HL5.out) ?_)|((with_reducible refine aS 26 ?_);refine wpList_load_part rfl 100 _ rfl (w.heap.size) 0 _ 100 (0,0) _ (HB6.out.get 0 rfl) rfl .i64 xs (arr_part _ _) Tryd.underlying100 rfl (el_i HXL.out) ?_)|((with_reducible show Calls _ _ #[.agg (arr _ z5), .agg (arr _ xs)] _ _);go_at_call 98; refine (mul_any _ _ _ _ _ HZ5.out HX.out).mono ?_;rintro e w7 ⟨z7,rfl,h7,hb7⟩;have HZ7:=Lib.hid h7;have HL7:=Lib.hid h7.1;have HB7:=Lib.hid (HB6.out.kept hb7);clear h7 hb7)|(with_reducible refine aT 5 (x:=(Operand.tmp 27)) ?_);((with_reducible refine aT 5 ?_);refine wpList_store_whole rfl 100 _ _ rfl (gx) _ _ 100 (HB7.out.get 3 rfl) rfl rfl (arr_len2 _ _ HL7.out HL5.out) (el_s HL7.out) (all_arr _ _) ?_;intro w8 hb8 hk8 hz8;have HB8:=Lib.hid (HB7.out.put 3 rfl hk8 hb8);clear hb8 hk8 hz8))
   go_roundw
   case rel =>
    have e:=HI.out
    exact ⟨n+1,by omega,by congr 1;omega,_,by rw [HPN.out];exact HZ7.out,HB8.out⟩
   case measure=>simp [intOf]
 ·obtain rfl:n=256:=by omega
  have hz:(255:Int) - ((256:Nat):Int) = -1:=by omega
  rw [hz]
  have HCS:=Lib.hid hcs
  have HCL:=Lib.hid hcs.1
  have HB:=Lib.hid hB
  clear hcs hB hz
  go_wp2_with (first|((with_reducible refine aS 28 ?_);refine wpList_load_part rfl 100 _ rfl (gx) 0 _ 100 (0,0) _ (HB.out.get 3 rfl) rfl .i64 cs (arr_part _ _) Tryd.underlying100 rfl (el_i HCL.out) ?_)|((with_reducible refine aT 4 ?_);refine wpList_store_whole rfl 100 _ _ rfl (w.heap.size+1+1) _ _ 100 (HB.out.get 2 rfl) rfl rfl (arr_len2 _ _ HCL.out HLze.out) (el_s HCL.out) (all_arr _ _) ?_;intro w8 hb8 hk8 hz8;have HB8:=Lib.hid (HB.out.put 2 rfl hk8 hb8);clear hb8 hk8 hz8))
  (try simp only [Exit.inBlock,Exit.then])
  refine bodyPost_ret (results_cell_row rfl _ _ (w.heap.size+1+1) 100 _ (0,0) _ rfl (HB8.out.get 2 rfl) Tryd.underlying100 rfl (el_s HCL.out)) rfl ?_
  exact ⟨_,rfl,HCS.out,HB8.out.below⟩
/-- The inverse by the power. -/
theorem inv_any (xs:List Int) (a:Nat) (w:World) (hx:El xs a) :
  Calls Tryd.prog 96 #[.agg (arr .i64 xs)] w fun e w'=>∃ zs,e = .returned (.agg (arr .i64 zs))∧El zs (finv a)∧Below w.heap.size w w':=by
 have hm:=most_any
 have hp:=fun w=>pow_any xs a (p - 2) w hx
 obtain ⟨es,hes⟩:∃ x,x=nar (dig 256 32 (p - 2)):=⟨_,rfl⟩
 rw [← hes] at hm hp
 obtain ⟨ze,hze⟩:∃ zs:List Int,zs=List.replicate 16 0:=⟨_,rfl⟩
 have HZze:Hid (∀ w,(zeroValue 100).run Tryd.prog w = .ok (.agg (arr .i64 ze)) w):=Lib.hid (by intro w;rw [hze];exact zero_el w)
 have HLze:Hid (ze.length=16):=Lib.hid (by rw [hze];rfl)
 have HM:=Lib.hid hm
 have HP:=Lib.hid hp
 have HXL:=Lib.hid hx.1
 have HS0:=Lib.hid (Blk.two w (arr .i64 xs) (arr .i64 ze) 100 100)
 clear hze hes hx hm hp
 go_enter Tryd.func96, Tryd.ntmps96
 go_upto_region 1 with (first|((with_reducible refine aS 2 ?_);refine wpList_alloc_row rfl 100 rfl _ (HZze.out _) ?_))
 generalize ((w.alloc (.cells (arr .i64 xs) 100)).alloc (.cells (arr .i64 ze) 100))=wb at HS0 ⊢
 have HK0:=Lib.hid ((Kept.refl (fun x=>x=w.heap.size+1) wb).drew)
 have HBd:=Lib.hid (HS0.out.drew)
 refine wp_region_held_drew (S:=(fun w'=>Kept (fun x=>x=w.heap.size+1) wb w')) (by kernel_rfl) (HK0.out) (fun hHeld=>?_)
 generalize wb.drew=wd at HK0 HBd hHeld ⊢
 refine' wpAnyH_take (i:=0) (oi:=(⟨some 3,_,_,_,_,none⟩:Oper)) (v:=_) rfl (by kernel_rfl) (by kernel_rfl) (by kernel_rfl) (fun _ _ _ h=>h) (yieldsIf_load_mid (by rfl) _ _ rfl _ _ rfl (xs.map (Value.int .i64)) _ ?hS101 Tryd.underlying100 rfl (by rw [List.length_map];exact el_i HXL.out)) (by assumption) ?rest101
 case hS101=>(intro w hSw;(try dsimp only at hSw);exact range_part (hSw.blk (HS0.out.get 0 rfl) (HS0.out.ne 0 1 rfl rfl (by decide))) 0 _ (by rw [List.length_map];exact arr_part _ _))
 (try simp only [Act.put,sA,sZ,sS])
 refine wpAnyH_ready (rs:=[1]) (by kernel_rfl) (by simp) ?_
 refine AllReadyH.cons (o:=(⟨some 4,_,_,_,_,none⟩:Oper)) rfl (fun K hK=>?_) AllReadyH.nil
 go_simp
 go_at_call 140
 refine (HM.out _).mono ?_
 rintro e w102 ⟨rfl,hb102⟩
 have HB102:=Lib.hid (HBd.out.kept hb102)
 have HK102:=Lib.hid (HK0.out.trans (Kept.of_below hb102))
 clear hb102
 (try dsimp only)
 refine hK.out _ _ (HK102.out) (fun hHeld=>?_)
 clear hK K
 (try simp only [Act.put,sA,sZ,sS])
 refine wpAnyH_ready (rs:=[2]) (by kernel_rfl) (by simp) ?_
 refine AllReadyH.cons (o:=(⟨some 5,_,_,_,_,none⟩:Oper)) rfl (fun K hK=>?_) AllReadyH.nil
 go_simp
 go_at_call 139
 refine (HP.out _).mono ?_
 rintro e w103 ⟨z103,rfl,h103,hb103⟩
 have HZ103:=Lib.hid h103
 have HL103:=Lib.hid h103.1
 clear h103
 have HB103:=Lib.hid (HB102.out.kept hb103)
 have HK103:=Lib.hid (HK102.out.trans (Kept.of_below hb103))
 clear hb103
 (try dsimp only)
 refine hK.out _ _ (HK103.out) (fun hHeld=>?_)
 clear hK K
 (try simp only [Act.put,sA,sZ,sS])
 refine wpAnyH_ready (rs:=[3]) (by kernel_rfl) (by simp) ?_
 refine AllReadyH.cons (o:=(⟨none,_,_,_,_,none⟩:Oper)) rfl (fun K hK=>?_) AllReadyH.nil
 refine step_store_whole rfl 100 (.tmp 2) (.tmp 5) rfl (w.heap.size+1) _ _ _ (HB103.out.get 1 rfl) rfl rfl (arr_len2 _ _ HL103.out HLze.out) (el_s HL103.out) (all_arr _ _) ?_
 intro w104 hb104 hk104 hz104
 have HB104:=Lib.hid (HB103.out.put 1 rfl hk104 hb104)
 have HK104:=Lib.hid (HK103.out.trans hk104)
 clear hb104 hk104 hz104
 refine hK.out _ _ (HK104.out) (fun hHeld=>?_)
 clear hK K
 (try simp only [Act.put])
 refine wpAnyH_done (by kernel_rfl) ?_ _
 have HBF:=HB104
 have HLF:=HL103
 have HZF:=HZ103
 (try simp only [Exit.then])
 go_wp2_with fail
 refine bodyPost_ret (results_cell_row rfl _ _ (w.heap.size+1) 100 _ (0,0) _ rfl (HBF.out.get 1 rfl) Tryd.underlying100 rfl (el_s HLF.out)) rfl ?_
 exact ⟨_,rfl,HZF.out,HBF.out.below⟩
theorem same_any (xs ys:List Int) (a b:Nat) (w:World) (hx:El xs a) (hy:El ys b) :
  Calls Tryd.prog 143 #[.agg (arr .i64 xs), .agg (arr .i64 ys)] w fun e w'=>e = .returned (.bool (decide (a=b)))∧Below w.heap.size w w':=by
 have HX:=Lib.hid hx
 have HY:=Lib.hid hy
 have HXL:=Lib.hid hx.1
 have HYL:=Lib.hid hy.1
 have hoa:=fun w=>out_any xs a w hx
 have hob:=fun w=>out_any ys b w hy
 have heq:(nar (dig 256 32 a) == nar (dig 256 32 b))=decide (a=b):=num_beq hx.lt hy.lt
 obtain ⟨oa,ha⟩:∃ o,o=nar (dig 256 32 a):=⟨_,rfl⟩
 obtain ⟨ob,hb⟩:∃ o,o=nar (dig 256 32 b):=⟨_,rfl⟩
 rw [← ha] at hoa heq
 rw [← hb] at hob heq
 have HOA:=Lib.hid hoa
 have HOB:=Lib.hid hob
 have HEQ:=Lib.hid heq
 have HAL:Hid (oa.length=32):=Lib.hid (by rw [ha,nar_len,dig_len])
 have HBL:Hid (ob.length=32):=Lib.hid (by rw [hb,nar_len,dig_len])
 have HS0:=Lib.hid (Blk.two w (arr .i64 xs) (arr .i64 ys) 100 100)
 clear hx hy hoa hob heq ha hb
 go_enter Tryd.func143, Tryd.ntmps143
 go_upto_region 1 with fail
 generalize ((w.alloc (.cells (arr .i64 xs) 100)).alloc (.cells (arr .i64 ys) 100))=wb at HS0 ⊢
 have HK0:=Lib.hid ((Kept.refl (fun _=>False) wb).drew)
 have HBd:=Lib.hid (HS0.out.drew)
 refine wp_region_held_drew (S:=(fun w'=>Kept (fun _=>False) wb w')) (by kernel_rfl) (HK0.out) (fun hHeld=>?_)
 generalize wb.drew=wd at HK0 HBd hHeld ⊢
 refine' wpAnyH_take (i:=0) (oi:=(⟨some 5,_,_,_,_,none⟩:Oper)) (v:=_) rfl (by kernel_rfl) (by kernel_rfl) (by kernel_rfl) (fun _ _ _ h=>h) (yieldsIf_load_mid (by rfl) _ _ rfl _ _ rfl (xs.map (Value.int .i64)) _ ?hS105 Tryd.underlying100 rfl (by rw [List.length_map];exact el_i HXL.out)) (by assumption) ?rest105
 case hS105=>(intro w hSw;(try dsimp only at hSw);exact range_part (hSw.blk (HS0.out.get 0 rfl) (fun e=>e.elim)) 0 _ (by rw [List.length_map];exact arr_part _ _))
 (try simp only [Act.put,sA,sZ,sS])
 refine' wpAnyH_take (i:=2) (oi:=(⟨some 7,_,_,_,_,none⟩:Oper)) (v:=_) rfl (by kernel_rfl) (by kernel_rfl) (by kernel_rfl) (fun _ _ _ h=>h) (yieldsIf_load_mid (by rfl) _ _ rfl _ _ rfl (ys.map (Value.int .i64)) _ ?hS106 Tryd.underlying100 rfl (by rw [List.length_map];exact el_i HYL.out)) (by assumption) ?rest106
 case hS106=>(intro w hSw;(try dsimp only at hSw);exact range_part (hSw.blk (HS0.out.get 1 rfl) (fun e=>e.elim)) 0 _ (by rw [List.length_map];exact arr_part _ _))
 (try simp only [Act.put,sA,sZ,sS])
 refine wpAnyH_ready (rs:=[1]) (by kernel_rfl) (by simp) ?_
 refine AllReadyH.cons (o:=(⟨some 6,_,_,_,_,none⟩:Oper)) rfl (fun K hK=>?_) AllReadyH.nil
 go_simp
 go_at_call 97
 refine (HOA.out _).mono ?_
 rintro e w107 ⟨rfl,hb107⟩
 have HB107:=Lib.hid (HBd.out.kept hb107)
 have HK107:=Lib.hid (HK0.out.trans (Kept.of_below hb107))
 clear hb107
 (try dsimp only)
 refine hK.out _ _ (HK107.out) (fun hHeld=>?_)
 clear hK K
 (try simp only [Act.put,sA,sZ,sS])
 refine wpAnyH_ready (rs:=[3]) (by kernel_rfl) (by simp) ?_
 refine AllReadyH.cons (o:=(⟨some 8,_,_,_,_,none⟩:Oper)) rfl (fun K hK=>?_) AllReadyH.nil
 go_simp
 go_at_call 97
 refine (HOB.out _).mono ?_
 rintro e w108 ⟨rfl,hb108⟩
 have HB108:=Lib.hid (HB107.out.kept hb108)
 have HK108:=Lib.hid (HK107.out.trans (Kept.of_below hb108))
 clear hb108
 (try dsimp only)
 refine hK.out _ _ (HK108.out) (fun hHeld=>?_)
 clear hK K
 (try simp only [Act.put,sA,sZ,sS])
 refine wpAnyH_take (i:=4) (oi:=(⟨some 9,_,_,_,_,none⟩:Oper)) (v:=(.bool (decide (a=b)))) rfl (by kernel_rfl) (by kernel_rfl) (by kernel_rfl) (fun _ _ _ h=>h) (Or.inl ⟨by rfl,?hy109⟩) (by assumption) ?rest109
 case hy109=>(intro w hSw;(try dsimp only at hSw);exact exec_eql_arr 23 _ _ (.tmp 6) (.tmp 8) rfl 32 .u8 .u8 Tryd.underlying23 Tryd.underlying5 (fun w=>by kernel_rfl) (by kernel_rfl) oa ob rfl rfl HAL.out HBL.out _ HEQ.out)
 (try simp only [Act.put,sA,sZ,sS])
 refine wpAnyH_take (i:=5) (oi:=(⟨some 4,_,_,_,_,none⟩:Oper)) (v:=?v110) rfl (by kernel_rfl) (by kernel_rfl) (by kernel_rfl) (fun _ _ _ h=>h) (Or.inl ⟨by rfl,?hy110⟩) (by assumption) ?rest110
 case hy110=>(intro w hSw;(try dsimp only at hSw);go_simp;try (with_reducible rfl))
 (try simp only [Act.put,sA,sZ,sS])
 refine wpAnyH_done (by kernel_rfl) ?_ _
 have HBF:=HB108
 (try simp only [Exit.then])
 go_wp2_with fail
 go_ret
 exact ⟨rfl,HBF.out.below⟩
end Go.Proofs.YtodnkallpfkdiaaDoor.Rd
namespace Go.Proofs.YtodnkallpfkdiaaDoor
open Go.RowKit
/-- A part of a structure of integers of one kind, laid behind what is laid. -/
theorem fill_part (place:Nat→Option (Nat×Nat)) (k:IntKind) (X Y a:List Int) (i off:Nat) (rest:List (Nat×Value)) (ho:off=X.length) (hp:place i=some (off,a.length)) (hY:a.length≤Y.length) :
  Instr.fill place (arr k (X ++ Y)) ((i, .agg (arr k a)) :: rest)=Instr.fill place (arr k (X ++ a ++ Y.drop a.length)) rest:=by
 subst ho
 have s:(Value.agg (arr k a)).cells.size=a.length:=by simp [Value.cells,arr_size]
 rw [fill_cons _ _ _ _ _ X.length (by rw [s];exact hp) (by rw [s,arr_size,List.length_append];omega)]
 congr 1
 simp only [Value.cells,arr,List.size_toArray,List.length_map,List.map_append]
 congr 1
 have e1:List.take X.length (X.map (Value.int k) ++ Y.map (Value.int k))=X.map (Value.int k):=List.take_left' (by simp)
 have e2:List.drop (X.length+a.length) (X.map (Value.int k) ++ Y.map (Value.int k))=(Y.drop a.length).map (Value.int k):=by
  rw [List.drop_append,List.drop_eq_nil_of_le (by simp),List.length_map,Nat.add_sub_cancel_left,List.nil_append,List.map_drop]
 rw [e1,e2]
/-- A structure of four arrays of n cells each. -/
theorem fill4 (k:IntKind) (n:Nat) (a b c d z:List Int) (ha:a.length=n) (hb:b.length=n) (hc:c.length=n) (hd:d.length=n) (hz:z.length=4 * n) :
  Instr.fill (fun x => #[((0:Nat),n),(n,n),(2 * n,n),(3 * n,n)][x]?) (arr k z)
   [(0, .agg (arr k a)),(1, .agg (arr k b)),(2, .agg (arr k c)),(3, .agg (arr k d))]=some (arr k (a ++ b ++ c ++ d)):=by
 have h0:=fill_part (fun x => #[((0:Nat),n),(n,n),(2 * n,n),(3 * n,n)][x]?) k [] z a 0 0 [(1, .agg (arr k b)),(2, .agg (arr k c)),(3, .agg (arr k d))] rfl (by rw [ha];rfl) (by omega)
 have h1:=fill_part (fun x => #[((0:Nat),n),(n,n),(2 * n,n),(3 * n,n)][x]?) k a (z.drop n) b 1 n [(2, .agg (arr k c)),(3, .agg (arr k d))] ha.symm (by rw [hb];rfl) (by rw [List.length_drop];omega)
 have h2:=fill_part (fun x => #[((0:Nat),n),(n,n),(2 * n,n),(3 * n,n)][x]?) k (a ++ b) ((z.drop n).drop n) c 2 (2 * n) [(3, .agg (arr k d))] (by rw [List.length_append];omega) (by rw [hc];rfl) (by rw [List.length_drop,List.length_drop];omega)
 have h3:=fill_part (fun x => #[((0:Nat),n),(n,n),(2 * n,n),(3 * n,n)][x]?) k (a ++ b ++ c) (((z.drop n).drop n).drop n) d 3 (3 * n) [] (by rw [List.length_append,List.length_append];omega) (by rw [hd];rfl) (by rw [List.length_drop,List.length_drop,List.length_drop];omega)
 simp only [List.nil_append,ha] at h0
 rw [hb] at h1
 rw [hc] at h2
 rw [hd] at h3
 rw [h0,h1,h2,h3,Instr.fill]
 have e:(((z.drop n).drop n).drop n).drop n=[]:=List.drop_eq_nil_of_le (by rw [List.length_drop,List.length_drop,List.length_drop];omega)
 rw [e,List.append_nil]
end Go.Proofs.YtodnkallpfkdiaaDoor
namespace Go.Proofs.YtodnkallpfkdiaaDoor.Rd
open Go.RowKit Lm Fp Cu
theorem exec_neq_arr {P:Program} {o:Oper} {ev:Operand→Value} {w:World} (t ty:TypeId) (e:TypeId) (x y:Operand) (ho:o.op = .binOp .neq t x y ty) (n:Nat) (k k':IntKind)
  (ht:P.underlying t=some (.array n e)) (he:P.underlying e=some (.int k')) (hsz:∀ w,(sizeOf e).run P w = .ok 1 w) (hm:P.eqGuardType P.depth t=false)
  (xs ys:List Int) (hx:ev x = .agg (arr k xs)) (hy:ev y = .agg (arr k ys)) (lx:xs.length=n) (ly:ys.length=n) (b:Bool) (hb:(!(xs == ys))=b) :
  (execOp ev o).run P w = .ok (.value (.bool b)) w:=by
 simp only [execOp,ho,hx,hy,Sem.run_bind,run_eqGuard_agg w .neq t x y _ _ hm,Result.andThen_ok,run_neq_arr w t e n k k' ht he hsz xs ys lx ly,hb]
 rfl
theorem p_lt32:p < 256 ^ 32:=by decide +kernel
theorem val32 (v:Nat) (h:v < 256 ^ 32):val 256 (dig 256 32 v)=v:=by rw [val_dig,Nat.mod_eq_of_lt h]
/-- in, of a number's bytes. -/
theorem in_num (v:Nat) (w:World) (h:v < 256 ^ 32):Calls Tryd.prog 104 #[.agg (arr .u8 (nar (dig 256 32 v)))] w fun e w'=>∃ zs,e = .returned (.agg (arr .i64 zs))∧El zs (v % p)∧Below w.heap.size w w':=by
 have:=in_any (dig 256 32 v) w (dig_len _ _ _) (dig_lt 256 (by decide) _ _)
 rwa [val32 v h] at this
theorem canon_any (v:Nat) (w:World) (h:v < 256 ^ 32):Calls Tryd.prog 103 #[.agg (arr .u8 (nar (dig 256 32 v)))] w fun e w'=>e = .returned (.agg (arr .u8 (nar (dig 256 32 (v % p)))))∧Below w.heap.size w w':=by
 have hi:=fun w=>in_num v w h
 obtain ⟨ns,hns⟩:∃ x,x=nar (dig 256 32 v):=⟨_,rfl⟩
 have HNL:Hid (ns.length=32):=Lib.hid (by rw [hns,nar_len,dig_len])
 rw [← hns] at hi ⊢
 have ho:=fun xs w (h:El xs (v % p))=>out_any xs (v % p) w h
 obtain ⟨os,hos⟩:∃ x,x=nar (dig 256 32 (v % p)):=⟨_,rfl⟩
 have HOL:Hid (os.length=32):=Lib.hid (by rw [hos,nar_len,dig_len])
 have HOS:=Lib.hid hos
 rw [← hos] at ho
 have HI:=Lib.hid hi
 have HO:=Lib.hid ho
 obtain ⟨zn,hzn⟩:∃ zs:List Int,zs=List.replicate 32 0:=⟨_,rfl⟩
 have HZzn:Hid (∀ w,(zeroValue 23).run Tryd.prog w = .ok (.agg (arr .u8 zn)) w):=Lib.hid (by intro w;rw [hzn];exact zero_num w)
 have HLzn:Hid (zn.length=32):=Lib.hid (by rw [hzn];rfl)
 have HS0:=Lib.hid (Blk.two w (arr .u8 ns) (arr .u8 zn) 23 23)
 clear hzn hi ho hns hos
 go_enter Tryd.func103, Tryd.ntmps103
 go_wp2_with (first|((with_reducible refine aS 2 ?_);refine wpList_alloc_row rfl 23 rfl _ (HZzn.out _) ?_)|((with_reducible refine aS 3 ?_);refine wpList_load_part rfl 23 _ rfl (w.heap.size) 0 _ 23 (0,0) _ (HS0.out.get 0 rfl) rfl .u8 ns (arr_part _ _) Tryd.underlying23 rfl (num_i HNL.out) ?_)|((with_reducible show Calls _ 104 _ _ _);go_at_call 104; refine (HI.out _).mono ?_;rintro e w1 ⟨z1,rfl,h1,hb1⟩;have HZ1:=Lib.hid h1;have HB1:=Lib.hid (HS0.out.kept hb1);clear h1 hb1)|((with_reducible show Calls _ 97 _ _ _);go_at_call 97; refine (HO.out _ _ HZ1.out).mono ?_;rintro e w2 ⟨rfl,hb2⟩;have HB2:=Lib.hid (HB1.out.kept hb2);clear hb2)|((with_reducible refine aT 2 ?_);refine wpList_store_whole rfl 23 _ _ rfl (w.heap.size+1) _ _ 23 (HB2.out.get 1 rfl) rfl rfl (arr_len2 _ _ HOL.out HLzn.out) (num_s HOL.out) (all_arr _ _) ?_;intro w3 hb3 hk3 hz3;have HB3:=Lib.hid (HB2.out.put 1 rfl hk3 hb3);clear hb3 hk3 hz3))
 (try simp only [Exit.then])
 refine bodyPost_ret (results_cell_row rfl _ _ (w.heap.size+1) 23 _ (0,0) _ rfl (HB3.out.get 1 rfl) Tryd.underlying23 rfl (num_s HOL.out)) rfl ?_
 exact ⟨by rw [HOS.out],HB3.out.below⟩
end Go.Proofs.YtodnkallpfkdiaaDoor.Rd
