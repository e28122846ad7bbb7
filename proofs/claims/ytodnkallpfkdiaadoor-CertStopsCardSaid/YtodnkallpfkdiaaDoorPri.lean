/- Prime numbers by Pocklington's and Lucas' tests; Fermat's little theorem. No program here; no condition. -/
namespace Go.Proofs.YtodnkallpfkdiaaDoor.Pri
def Pr (p:Nat):Prop:=1 < p∧∀ m,m ∣ p→m=1∨m=p
/-- The power by the highest k of 256 bits. -/
def pw (n a e:Nat):Nat→Nat
 | 0=>1
 | k+1=>if e / 2 ^ (255 - k) % 2=1 then pw n a e k * pw n a e k % n * a % n else pw n a e k * pw n a e k % n
theorem pw_mod (n a e:Nat) (he:e < 2 ^ 256):∀ k,k≤256→pw n a e k % n=a ^ (e / 2 ^ (256 - k)) % n
 | 0,_=>by
  rw [Nat.sub_zero,Nat.div_eq_of_lt he]
  rfl
 | k+1,hk=>by
  have ih:=pw_mod n a e he k (by omega)
  have h1:256 - k=(255 - k)+1:=by omega
  have h2:256 - (k+1)=255 - k:=by omega
  have h3:e / 2 ^ (256 - k)=e / 2 ^ (255 - k) / 2:=by rw [h1,Nat.pow_succ,Nat.div_div_eq_div_mul]
  have h4:pw n a e k * pw n a e k % n=a ^ (e / 2 ^ (255 - k) / 2 * 2) % n:=by
   rw [Nat.mul_mod,ih,← Nat.mul_mod,h3,← Nat.pow_add]
   congr 2
   omega
  rw [h2]
  unfold pw
  split
  ·rename_i hb
   rw [Nat.mod_mod,Nat.mul_mod,h4,Nat.mod_mod,← Nat.mul_mod,← Nat.pow_succ]
   congr 2
   omega
  ·rename_i hb
   rw [Nat.mod_mod,h4]
   congr 2
   omega
theorem pw_full (n a e:Nat) (he:e < 2 ^ 256):pw n a e 256 % n=a ^ e % n:=by
 rw [pw_mod n a e he 256 (Nat.le_refl _)]
 simp
/-- As many boxes as letters. -/
theorem pigeon:∀ (m d:Nat) (f:Nat→Nat),(∀ i,i < d→f i < m)→(∀ i j,i < j→j < d→f i≠f j)→d≤m
 | 0,d,f,h,_=>by
  rcases Nat.eq_zero_or_pos d with h0|h0
  ·omega
  ·exact absurd (h 0 h0) (Nat.not_lt_zero _)
 | m+1,d,f,h,hi=>by
  by_cases hx:∃ i,i < d∧f i=m
  ·obtain ⟨i0,h0,e0⟩:=hx
   have:=pigeon m (d - 1) (fun i=>if i < i0 then f i else f (i+1)) (fun i hid=>by
    show (if i < i0 then f i else f (i+1)) < m
    split
    ·rename_i hlt
     have a1:=h i (by omega)
     have a2:=hi i i0 hlt h0
     omega
    ·rename_i hlt
     have a1:=h (i+1) (by omega)
     have a2:=hi i0 (i+1) (by omega) (by omega)
     omega) (fun i j hij hj=>by
    show (if i < i0 then f i else f (i+1))≠(if j < i0 then f j else f (j+1))
    split <;> split
    ·exact hi i j hij (by omega)
    ·exact hi i (j+1) (by omega) (by omega)
    ·omega
    ·exact hi (i+1) (j+1) (by omega) (by omega))
   omega
  ·have:=pigeon m d f (fun i hid=>by
    have a1:=h i hid
    have a2:f i≠m:=fun e=>hx ⟨i,hid,e⟩
    omega) hi
   omega
/-- The order. -/
def Ord (l a d:Nat):Prop:=0 < d∧a ^ d % l=1∧∀ e,0 < e→e < d→a ^ e % l≠1
theorem ord_ex (l a:Nat):∀ (n:Nat),0 < n→a ^ n % l=1→∃ d,Ord l a d:=by
 intro n
 induction n using Nat.strongRecOn with
 | _ n ih =>
  intro hn h
  by_cases hx:∃ e,0 < e∧e < n∧a ^ e % l=1
  ·obtain ⟨e,e0,e1,e2⟩:=hx
   exact ih e e1 e0 e2
  ·exact ⟨n,hn,h,fun e e0 e1 e2=>hx ⟨e,e0,e1,e2⟩⟩
theorem pow_mul_mod {l a d:Nat} (hl:1 < l) (h:a ^ d % l=1) (c:Nat):a ^ (d * c) % l=1:=by
 rw [Nat.pow_mul,Nat.pow_mod,h,Nat.one_pow,Nat.mod_eq_of_lt hl]
theorem Ord.dvd {l a d n:Nat} (hl:1 < l) (o:Ord l a d) (h:a ^ n % l=1):d ∣ n:=by
 rcases Nat.eq_zero_or_pos (n % d) with h0|h0
 ·exact Nat.dvd_of_mod_eq_zero h0
 ·refine absurd ?_ (o.2.2 (n % d) h0 (Nat.mod_lt _ o.1))
  have e1:a ^ n=a ^ (d * (n / d)) * a ^ (n % d):=by rw [← Nat.pow_add,Nat.div_add_mod]
  rw [e1,Nat.mul_mod,pow_mul_mod hl o.2.1,Nat.one_mul,Nat.mod_mod] at h
  exact h
theorem Ord.ne {l a d i j:Nat} (o:Ord l a d) (hij:i < j) (hj:j < d):a ^ i % l≠a ^ j % l:=by
 intro h
 refine o.2.2 (j - i) (by omega) (by omega) ?_
 have e1:a ^ i * a ^ (d - i) % l=1:=by rw [← Nat.pow_add,show i+(d - i)=d by omega];exact o.2.1
 have e2:a ^ j * a ^ (d - i) % l=a ^ (j - i) % l:=by
  rw [← Nat.pow_add,show j+(d - i)=d+(j - i) by omega,Nat.pow_add,Nat.mul_mod,o.2.1,Nat.one_mul,Nat.mod_mod]
 rw [← e2,Nat.mul_mod,← h,← Nat.mul_mod,e1]
theorem Ord.pos {l a d:Nat} (hl:1 < l) (o:Ord l a d) (i:Nat):0 < a ^ i % l:=by
 rcases Nat.eq_zero_or_pos (a ^ i % l) with h|h
 ·have h1:a ^ (d * i) % l=1:=pow_mul_mod hl o.2.1 i
  have h2:a ^ (d * i)=a ^ i * a ^ ((d - 1) * i):=by
   rw [← Nat.pow_add]
   congr 1
   have:d=1+(d - 1):=by have:=o.1;omega
   rw [this]
   simp [Nat.add_mul]
  rw [h2,Nat.mul_mod,h,Nat.zero_mul,Nat.zero_mod] at h1
  omega
 ·exact h
theorem Ord.le {l a d:Nat} (hl:1 < l) (o:Ord l a d):d≤l - 1 :=
 pigeon (l - 1) d (fun i=>a ^ i % l - 1) (fun i _=>by
  show a ^ i % l - 1 < l - 1
  have:=Nat.mod_lt (a ^ i) (show l > 0 by omega)
  have:=o.pos hl i
  omega) (fun i j hij hj=>by
  show a ^ i % l - 1≠a ^ j % l - 1
  have:=o.ne hij hj
  have:=o.pos hl i
  have:=o.pos hl j
  omega)
def mul:List Nat→Nat
 | []=>1
 | r :: rs=>r * mul rs
theorem cop {r c:Nat} (hr:Pr r) (h:¬ r ∣ c):Nat.Coprime r c:=by
 rcases hr.2 _ (Nat.gcd_dvd_left r c) with h1|h1
 ·exact h1
 ·exact absurd (h1▸Nat.gcd_dvd_right r c) h
theorem cop_mul {c:Nat}:∀ (rs:List Nat),(∀ r∈rs,Nat.Coprime r c)→Nat.Coprime (mul rs) c
 | [],_=>Nat.gcd_one_left c
 | r :: rs,h=>Nat.Coprime.mul_left (h r (List.mem_cons_self ..)) (cop_mul rs fun x hx=>h x (List.mem_cons_of_mem _ hx))
/-- What both tests ask. -/
structure Test (N a:Nat) (rs:List Nat):Prop where
 big:1 < N
 lt:N - 1 < 2 ^ 256
 pr:∀ r∈rs,Pr r
 dv:N - 1=mul rs * ((N - 1) / mul rs)
 one:pw N a (N - 1) 256 % N=1
 gc:∀ r∈rs,Nat.gcd (pw N a ((N - 1) / r) 256 % N+(N - 1)) N=1
theorem Test.ord {N a l:Nat} {rs:List Nat} (T:Test N a rs) (hl:1 < l) (hd:l ∣ N):∃ d,Ord l a d∧mul rs ∣ d:=by
 have hN:0 < N:=by have:=T.big;omega
 have h1:a ^ (N - 1) % l=1:=by
  rw [← Nat.mod_mod_of_dvd _ hd,← pw_full N a _ T.lt,T.one,Nat.mod_eq_of_lt hl]
 obtain ⟨d,o⟩:=ord_ex l a (N - 1) (by have:=T.big;omega) h1
 refine ⟨d,o,?_⟩
 obtain ⟨c,hc⟩:=o.dvd hl h1
 have hcop:Nat.Coprime (mul rs) c:=cop_mul rs fun r hr=>cop (T.pr r hr) fun hrc=>by
  obtain ⟨c',rfl⟩:=hrc
  have hr0:0 < r:=by have:=(T.pr r hr).1;omega
  have e1:(N - 1) / r=d * c':=by
   rw [hc,show d * (r * c')=r * (d * c') by rw [Nat.mul_left_comm],Nat.mul_div_cancel_left _ hr0]
  have e2:pw N a ((N - 1) / r) 256 % N % l=1:=by
   rw [pw_full N a _ (Nat.lt_of_le_of_lt (Nat.div_le_self _ _) T.lt),Nat.mod_mod_of_dvd _ hd,e1]
   exact pow_mul_mod hl o.2.1 c'
  have e3:l ∣ pw N a ((N - 1) / r) 256 % N+(N - 1):=by
   apply Nat.dvd_of_mod_eq_zero
   obtain ⟨k,hk⟩:=hd
   rw [Nat.add_mod,e2,← Nat.mod_eq_of_lt hl,← Nat.add_mod,Nat.mod_eq_of_lt hl,show 1+(N - 1)=N by omega,hk,Nat.mul_mod_right]
  have e4:l ∣ 1:=T.gc r hr▸Nat.dvd_gcd e3 hd
  have:=Nat.le_of_dvd (by decide) e4
  omega
 exact hcop.dvd_of_dvd_mul_right (hc▸⟨_,T.dv⟩)
theorem Test.prime {N a:Nat} {rs:List Nat} (T:Test N a rs) (hF:N < (mul rs+1) * (mul rs+1)):Pr N:=by
 have key:∀ l,1 < l→l ∣ N→l * l≤N→False:=by
  intro l hl hd hs
  obtain ⟨d,o,h⟩:=T.ord hl hd
  have h1:=Nat.le_of_dvd o.1 h
  have h2:=o.le hl
  have h3:mul rs+1≤l:=by omega
  have:=Nat.mul_le_mul h3 h3
  omega
 have hN:0 < N:=by have:=T.big;omega
 refine ⟨T.big,fun m hm=>?_⟩
 obtain ⟨k,hk⟩:=hm
 rcases Nat.eq_or_lt_of_le (Nat.one_le_iff_ne_zero.2 (show m≠0 by rintro rfl;simp at hk;omega)) with h|hm1
 ·exact Or.inl h.symm
 rcases Nat.eq_or_lt_of_le (Nat.one_le_iff_ne_zero.2 (show k≠0 by rintro rfl;simp at hk;omega)) with h|hk1
 ·right;rw [hk,← h,Nat.mul_one]
 exfalso
 rcases Nat.le_total m k with h|h
 ·exact key m hm1 ⟨k,hk⟩ (by rw [hk];exact Nat.mul_le_mul_left _ h)
 ·exact key k hk1 ⟨m,by rw [hk,Nat.mul_comm]⟩ (by rw [hk];exact Nat.mul_le_mul_right _ h)
theorem Pr.dvd_mul {p a b:Nat} (h:Pr p) (hd:p ∣ a * b):p ∣ a∨p ∣ b:=by
 by_cases ha:p ∣ a
 ·exact Or.inl ha
 ·exact Or.inr ((cop h ha).dvd_of_dvd_mul_left hd)
/-- Fermat's little theorem, where a root is known. -/
theorem Test.fermat {N a:Nat} {rs:List Nat} (T:Test N a rs) (hF:mul rs=N - 1) (b:Nat) (hb:b % N≠0):b ^ (N - 1) % N=1:=by
 have hN:=T.big
 obtain ⟨d,o,h⟩:=T.ord T.big (Nat.dvd_refl N)
 rw [hF] at h
 have h1:=Nat.le_of_dvd o.1 h
 have h2:=o.le T.big
 have hd:d=N - 1:=by omega
 subst hd
 by_cases hx:∃ i,i < N - 1∧a ^ i % N=b % N
 ·obtain ⟨i,_,hi⟩:=hx
  rw [Nat.pow_mod,← hi,← Nat.pow_mod,← Nat.pow_mul,Nat.mul_comm]
  exact pow_mul_mod T.big o.2.1 i
 ·exfalso
  have:=pigeon (N - 1) N (fun i=>if i < N - 1 then a ^ i % N - 1 else b % N - 1) (fun i hi=>by
   show (if i < N - 1 then a ^ i % N - 1 else b % N - 1) < N - 1
   have:=Nat.mod_lt (a ^ i) (show N > 0 by omega)
   have:=Nat.mod_lt b (show N > 0 by omega)
   have:=o.pos T.big i
   split <;> omega) (fun i j hij hj=>by
   show (if i < N - 1 then a ^ i % N - 1 else b % N - 1)≠(if j < N - 1 then a ^ j % N - 1 else b % N - 1)
   rw [if_pos (show i < N - 1 by omega)]
   split
   ·rename_i hjl
    have:=o.ne hij hjl
    have:=o.pos T.big i
    have:=o.pos T.big j
    omega
   ·have:a ^ i % N≠b % N:=fun e=>hx ⟨i,by omega,e⟩
    have:=o.pos T.big i
    omega)
  omega
theorem trial {n k:Nat} (hn:1 < n) (hk:n < k * k) (h:(List.range k).all (fun m=>decide (m < 2) || n % m != 0)=true):Pr n:=by
 have key:∀ m,1 < m→m ∣ n→m * m≤n→False:=by
  intro m h1 hd hs
  have hlt:m < k:=by
   rcases Nat.lt_or_ge m k with h2|h2
   ·exact h2
   ·have:=Nat.mul_le_mul h2 h2
    omega
  have:=List.all_eq_true.1 h m (List.mem_range.2 hlt)
  simp only [Bool.or_eq_true,decide_eq_true_eq,bne_iff_ne,ne_eq] at this
  rcases this with h3|h3
  ·omega
  ·exact h3 (Nat.mod_eq_zero_of_dvd hd)
 refine ⟨hn,fun m hm=>?_⟩
 obtain ⟨c,hc⟩:=hm
 rcases Nat.eq_or_lt_of_le (Nat.one_le_iff_ne_zero.2 (show m≠0 by rintro rfl;simp at hc;omega)) with h1|hm1
 ·exact Or.inl h1.symm
 rcases Nat.eq_or_lt_of_le (Nat.one_le_iff_ne_zero.2 (show c≠0 by rintro rfl;simp at hc;omega)) with h1|hk1
 ·right;rw [hc,← h1,Nat.mul_one]
 exfalso
 rcases Nat.le_total m c with h1|h1
 ·exact key m hm1 ⟨c,hc⟩ (by rw [hc];exact Nat.mul_le_mul_left _ h1)
 ·exact key c hk1 ⟨m,by rw [hc,Nat.mul_comm]⟩ (by rw [hc];exact Nat.mul_le_mul_right _ h1)
set_option maxRecDepth 100000
theorem pr2:Pr 2:=trial (k:=2) (by decide) (by decide) (by decide)
theorem pr3:Pr 3:=trial (k:=2) (by decide) (by decide) (by decide)
theorem pr127:Pr 127:=trial (k:=12) (by decide) (by decide) (by decide +kernel)
theorem pr4153:Pr 4153:=trial (k:=65) (by decide) (by decide) (by decide +kernel)
theorem pr65147:Pr 65147:=trial (k:=256) (by decide) (by decide) (by decide +kernel)
theorem pr430751:Pr 430751:=trial (k:=657) (by decide) (by decide) (by decide +kernel)
theorem pr569003:Pr 569003:=trial (k:=755) (by decide) (by decide) (by decide +kernel)
theorem pr8574133:Pr 8574133:=trial (k:=2929) (by decide) (by decide) (by decide +kernel)
theorem prG:Pr 2773320623:=Test.prime (a:=5) (rs:=[569003]) ⟨by decide,by decide +kernel,by simpa using pr569003,by decide +kernel,by decide +kernel,by decide +kernel⟩ (by decide +kernel)
theorem prC:Pr 31757755568855353:=Test.prime (a:=2) (rs:=[4153,430751]) ⟨by decide,by decide +kernel,by simpa using ⟨pr4153,pr430751⟩,by decide +kernel,by decide +kernel,by decide +kernel⟩ (by decide +kernel)
theorem prE:Pr 1919519569386763:=Test.prime (a:=2) (rs:=[127,8574133]) ⟨by decide,by decide +kernel,by simpa using ⟨pr127,pr8574133⟩,by decide +kernel,by decide +kernel,by decide +kernel⟩ (by decide +kernel)
theorem prD:Pr 72106336199:=Test.prime (a:=2) (rs:=[2773320623]) ⟨by decide,by decide +kernel,by simpa using prG,by decide +kernel,by decide +kernel,by decide +kernel⟩ (by decide +kernel)
theorem prM:Pr 75445702479781427272750846543864801:=Test.prime (a:=2) (rs:=[72106336199,1919519569386763]) ⟨by decide,by decide +kernel,by simpa using ⟨prD,prE⟩,by decide +kernel,by decide +kernel,by decide +kernel⟩ (by decide +kernel)
theorem prB:Pr 74058212732561358302231226437062788676166966415465897661863160754340907:=Test.prime (a:=2) (rs:=[31757755568855353,75445702479781427272750846543864801]) ⟨by decide,by decide +kernel,by simpa using ⟨prC,prM⟩,by decide +kernel,by decide +kernel,by decide +kernel⟩ (by decide +kernel)
/-- The field's number. -/
def P0:Nat:=57896044618658097711785492504343953926634992332820282019728792003956564819949
def fs:List Nat:=[2,2,3,65147,74058212732561358302231226437062788676166966415465897661863160754340907]
theorem tP:Test P0 2 fs:=⟨by decide +kernel,by decide +kernel,by
 intro r hr
 simp only [fs,List.mem_cons,List.not_mem_nil,or_false] at hr
 rcases hr with rfl|rfl|rfl|rfl|rfl
 ·exact pr2
 ·exact pr2
 ·exact pr3
 ·exact pr65147
 ·exact prB,by decide +kernel,by decide +kernel,by decide +kernel⟩
theorem prP:Pr P0:=tP.prime (by decide +kernel)
theorem fermat (b:Nat) (hb:b % P0≠0):b ^ (P0 - 1) % P0=1:=tP.fermat (by decide +kernel) b hb
end Go.Proofs.YtodnkallpfkdiaaDoor.Pri
