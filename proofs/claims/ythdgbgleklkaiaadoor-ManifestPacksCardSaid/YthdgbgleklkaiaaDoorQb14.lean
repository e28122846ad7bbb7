/- What a point's bytes come to, in plain words. chacha.begin: chacha.Block: Prime numbers by Pocklington's and Lucas' tests; The field of 2^255-19 as Fin: Four numbers for a point; T. Condition: as each theorem says. -/

import Derived.Test.YthdgbgleklkaiaaDoorQb05
import Derived.Test.YthdgbgleklkaiaaDoorQb11
import Derived.Test.YthdgbgleklkaiaaDoorQb13
open Nat renaming mod_eq_of_lt→acD,mul_mod→acE,pow_add→acF,div_lt_of_lt_mul→acH,pow_succ→acI,lt_of_lt_of_le→acJ,mod_mod→acK,pow_mod→acL,mod_lt→acM,div_div_eq_div_mul→acN,mul_one→acO,eq_or_lt_of_le→acP,mul_comm→acQ,sub_zero→acR,eq_zero_or_pos→acT,dvd_of_mod_eq_zero→acU,add_mod→acV,le_of_dvd→acW,mod_eq_zero_of_dvd→acX,mul_pow→acY,mod_add_div→adC,div_eq_of_lt→adF,div_add_mod→adI,mod_mod_of_dvd→adL,mul_le_mul_left→adO,mul_le_mul_right→adP
open List renaming replicate→acG,range→acS,length_set→acZ,set_append_right→adD,replicate_succ→adE
set_option linter.unusedSimpArgs false
set_option linter.unusedVariables false
set_option maxRecDepth 100000
set_option maxHeartbeats 16000000
namespace Go.Proofs.YthdgbgleklkaiaaDoor.Rd
open Go.RowKit Lm Fp Cu
def gH (a:Nat):Nat×Bool:=if aA (iE a eighth 256) (iE a eighth 256)=a then (iE a eighth 256,true) else (aA (iE a eighth 256) im,decide (aA (aA (iE a eighth 256) im) (aA (iE a eighth 256) im)=a))
theorem H9 (a:Nat):(gH a).1 < p:=by
 unfold gH
 split
 ·exact Qo _ _ _
 ·exact dH _ _
theorem fsub0 (r:Nat) (h:r < p):aX 0 r=if r=0 then 0 else p - r:=by
 unfold aX
 rw [Nat.zero_add]
 split
 ·rename_i e;subst e;rw [acR,Nat.mod_self]
 ·rw [acD (by omega)]
theorem FB (a:Nat):jC a=if (gH a).2=true then (if (gH a).1 % 2=1 then aX 0 (gH a).1 else (gH a).1,true) else (0,false):=by
 unfold jC gH
 simp only
 by_cases h:aA (iE a eighth 256) (iE a eighth 256)=a
 ·rw [if_pos h,if_pos h]
  simp only [h,if_true]
 ·rw [if_neg h,if_neg h]
  simp only [decide_eq_true_eq]
theorem p_odd:p % 2=1:=by decide +kernel
def under (y:Nat):Nat:=aA (aX (aA y y) 1) (finv (aL (aA dd (aA y y)) 1))
theorem AJ (v:Nat) (h:¬ v % 2 ^ 255 < p):iU v=none:=by
 unfold iU
 simp only
 rw [if_neg h]
theorem xX (v:Nat) (h:(gH (under (v % 2 ^ 255))).2=false):iU v=none:=by
 unfold iU
 simp only
 split
 ·rw [if_neg]
  rintro ⟨h1, -⟩
  have e:=FB (under (v % 2 ^ 255))
  rw [h,if_neg (by decide)] at e
  rw [show jC (aA (aX (aA (v % 2 ^ 255) (v % 2 ^ 255)) 1) (finv (aL (aA dd (aA (v % 2 ^ 255) (v % 2 ^ 255))) 1)))=jC (under (v % 2 ^ 255)) from rfl,e] at h1
  cases h1
 ·rfl
theorem xW (v:Nat) (hb:v / 2 ^ 255=1) (h0:(gH (under (v % 2 ^ 255))).1=0):iU v=none:=by
 unfold iU
 simp only
 split
 ·rw [if_neg]
  rintro ⟨h1,h2⟩
  rw [show jC (aA (aX (aA (v % 2 ^ 255) (v % 2 ^ 255)) 1) (finv (aL (aA dd (aA (v % 2 ^ 255) (v % 2 ^ 255))) 1)))=jC (under (v % 2 ^ 255)) from rfl,FB,h0] at h1 h2
  refine h2 hb ?_
  split at h1
  ·rename_i h3;rw [if_pos h3];rfl
  ·cases h1
 ·rfl
theorem MQ (v r:Nat) (hv:v < 2 ^ 256) (hy:v % 2 ^ 255 < p) (hr:(gH (under (v % 2 ^ 255))).1=r) (hk:(gH (under (v % 2 ^ 255))).2=true) (hz:¬ (r=0∧v / 2 ^ 255=1)) :
  iU v=some ⟨if r % 2≠v / 2 ^ 255 then aX 0 r else r,v % 2 ^ 255,1,aA (if r % 2≠v / 2 ^ 255 then aX 0 r else r) (v % 2 ^ 255)⟩:=by
 have hrl:=H9 (under (v % 2 ^ 255))
 rw [hr] at hrl
 have hod:=p_odd
 have f0:=fsub0 r hrl
 have hb2:v / 2 ^ 255=0∨v / 2 ^ 255=1:=by
  have:v / 2 ^ 255 < 2:=acH (by rw [← acI];exact hv)
  omega
 have e:=FB (under (v % 2 ^ 255))
 rw [hk,if_pos rfl,hr] at e
 unfold iU
 simp only
 rw [if_pos hy,show jC (aA (aX (aA (v % 2 ^ 255) (v % 2 ^ 255)) 1) (finv (aL (aA dd (aA (v % 2 ^ 255) (v % 2 ^ 255))) 1)))=jC (under (v % 2 ^ 255)) from rfl,e]
 simp only [true_and]
 have key:(if v / 2 ^ 255=1 then aX 0 (if r % 2=1 then aX 0 r else r) else if r % 2=1 then aX 0 r else r)=if r % 2≠v / 2 ^ 255 then aX 0 r else r:=by
  rcases hb2 with hb|hb
  ·rw [hb,if_neg (by decide)]
   by_cases h1:r % 2=1
   ·rw [if_pos h1,if_pos (by omega)]
   ·rw [if_neg h1,if_neg (by omega)]
  ·rw [hb,if_pos rfl]
   by_cases h1:r % 2=1
   ·rw [if_pos h1,if_neg (by omega),f0,if_neg (by omega),fsub0 _ (by omega),if_neg (by omega)]
    omega
   ·rw [if_neg h1,if_pos (by omega)]
 rw [if_pos,key]
 intro hb
 split
 ·rename_i h1
  rw [f0,if_neg (by omega)]
  omega
 ·intro h0
  exact hz ⟨h0,hb⟩
theorem enc_set (Y b:Nat) (hY:Y < 2 ^ 255) (hb:b≤1):(bD 256 32 Y).set 31 (Y / 256 ^ 31+128 * b)=bD 256 32 (Y+2 ^ 255 * b):=by
 have hlt:Y / 256 ^ 31 < 128:=acH (acJ hY (by decide))
 refine qp 256 (by decide) 32 _ _ (by rw [acZ,aK]) (jI (ig 256 (by decide) _ _) _ _ (by omega)) ?_
 have h:=nH 256 (bD 256 32 Y) 31 (Y / 256 ^ 31+128 * b) (by rw [aK];decide)
 rw [dz _ _ _ _ (by decide),fA,acD (show Y / 256 ^ 31 < 256 by omega),acD (acJ hY (by decide)),Nat.mul_add] at h
 have e:256 ^ 31 * (128 * b)=2 ^ 255 * b:=by rw [← Nat.mul_assoc]
 rw [e] at h
 omega
theorem Vl (Y:Nat) (hY:Y < 2 ^ 255):(bD 256 32 Y).getD 31 0=Y / 256 ^ 31∧Y / 256 ^ 31 < 128:=by
 have hlt:Y / 256 ^ 31 < 128:=acH (acJ hY (by decide))
 rw [dz _ _ _ _ (by decide),acD (by omega)]
 exact ⟨rfl,hlt⟩
theorem Aa (X:Nat):(bD 256 32 X).getD 0 0=X % 256:=by rw [dz _ _ _ _ (by decide)];simp
theorem Qt (v:Nat) (hv:v < 2 ^ 256):(bD 256 32 v).set 31 (v / 256 ^ 31 % 128)=bD 256 32 (v % 2 ^ 255):=by
 have hlt:v / 256 ^ 31 < 256:=acH (acJ hv (by decide))
 have hm:v % 2 ^ 255 < 2 ^ 255:=acM _ (by decide)
 have hb2:v / 2 ^ 255≤1:=by
  have:v / 2 ^ 255 < 2:=acH (by rw [← acI];exact hv)
  omega
 have hd:=adC v (2 ^ 255)
 refine qp 256 (by decide) 32 _ _ (by rw [acZ,aK]) (jI (ig 256 (by decide) _ _) _ _ (by omega)) ?_
 have h:=nH 256 (bD 256 32 v) 31 (v / 256 ^ 31 % 128) (by rw [aK];decide)
 rw [dz _ _ _ _ (by decide),fA,acD hlt,acD (acJ hv (by decide))] at h
 have e1:v / 256 ^ 31=v / 256 ^ 31 % 128+128 * (v / 2 ^ 255):=by
  have:v / 2 ^ 255=v / 256 ^ 31 / 128:=by rw [acN]
  rw [this,adC]
 have e2:256 ^ 31 * (v / 256 ^ 31)=256 ^ 31 * (v / 256 ^ 31 % 128)+2 ^ 255 * (v / 2 ^ 255):=by
  rw [show (2:Nat) ^ 255 * (v / 2 ^ 255)=256 ^ 31 * (128 * (v / 2 ^ 255)) by rw [← Nat.mul_assoc],← Nat.mul_add,← e1]
 omega
theorem top_bit (v:Nat):v / 256 ^ 31 / 128=v / 2 ^ 255:=by rw [acN]
theorem pE (v:Nat) (hv:v < 2 ^ 256):(bD 256 32 v).getD 31 0=v / 256 ^ 31∧v / 256 ^ 31 < 256:=by
 have hlt:v / 256 ^ 31 < 256:=acH (acJ hv (by decide))
 rw [dz _ _ _ _ (by decide),acD hlt]
 exact ⟨rfl,hlt⟩
end Go.Proofs.YthdgbgleklkaiaaDoor.Rd
namespace Go.Proofs.YthdgbgleklkaiaaDoor.Ch
open Go.RowKit
def lay (pre:List Int) (f:Nat→Int) (i n:Nat):List Int:=pre ++ (acS i).map f ++ acG (n - i) 0
theorem Fh (pre:List Int) (f:Nat→Int) (i n:Nat) (h:i≤n):(lay pre f i n).length=pre.length+n:=by simp [lay];omega
theorem Fg (pre:List Int) (f:Nat→Int) (i n:Nat) (h:i < n):(lay pre f i n).set (pre.length+i) (f i)=lay pre f (i+1) n:=by
 unfold lay
 rw [adD _ _ (by simp),show n - i=(n - (i+1))+1 by omega,adE,List.range_succ]
 simp
theorem IB (pre:List Int) (f:Nat→Int) (i n:Nat) (g:Nat→Int) (_h:i≤n):lay pre f i n=lay (pre ++ (acS i).map f) g 0 (n - i):=by simp [lay]
theorem al32 : Tryd.prog.arrayLen 23 = 32:=by kernel_rfl
theorem al12 : Tryd.prog.arrayLen 108 = 12:=by kernel_rfl
theorem UK (w:World):(zeroValue 143).run Tryd.prog w = .ok (.agg (arr .u32 (acG 16 0))) w:=by kernel_rfl
theorem size16:(Tryd.prog.info? 143).map (·.size)=some 16:=by kernel_rfl
structure Bg (w wr:World) (key aM s:List Int):Prop where
 bk:wr.heap[w.heap.size]? = some (.cells (arr .u8 key) 23 (0,0))
 bn:wr.heap[w.heap.size+1]? = some (.cells (arr .u8 aM) 108 (0,0))
 br:wr.heap[w.heap.size+1+1]? = some (.cells (arr .u32 (acG 16 0)) 143 (0,0))
 bs:wr.heap[w.heap.size+1+1+1]? = some (.cells (arr .u32 s) 143 (0,0))
 below:Below w.heap.size w wr
theorem Bg.drewN {w wr:World} {key aM s:List Int} (h:Bg w wr key aM s) (n:Nat):Bg w (wr.drewN n) key aM s:=⟨h.bk,h.bn,h.br,h.bs,Go.Proofs.YthdgbgleklkaiaaDoor.Below.drewN h.below n⟩
theorem Bg.set {w wr:World} {key aM s:List Int} (h:Bg w wr key aM s) (i:Nat) (x:Int):Bg w (wr.setCell ⟨w.heap.size+1+1+1,i,none⟩ (.int .u32 x)) key aM (s.set i x) :=
 ⟨aB h.bk _ (by omega),aB h.bn _ (by omega),aB h.br _ (by omega),bI h.bs i x,h.below.setCell (p:=⟨w.heap.size+1+1+1,i,none⟩) (by simp;omega) _⟩
theorem O4 (t:TypeId) (N g i:Nat) (ht : Tryd.prog.underlying t=some (.array (Tryd.prog.arrayLen t) (Tryd.prog.elem t))) (al : Tryd.prog.arrayLen t=N) (hz:∀ w,(sizeOf (Tryd.prog.elem t)).run Tryd.prog w = .ok 1 w) (hi:i < N) (w:World) :
  (Instr.sliceAt t (.pointer (some ⟨g,0,none⟩)) (some (.int .i64 (i:Int))) none none).run Tryd.prog w = .ok (.slice (some ⟨g,i,none⟩) (N - i) (N - i)) w:=by
 rw [run_sliceAt_array_l w t ⟨g,0,none⟩ ht .i64 i (by omega) (by rw [al];omega),hz,al,Result.andThen_ok]
 unfold slicedAt
 rw [Int.toNat_natCast,if_neg (by omega),acO]
 have e:(⟨g,0,none⟩:Addr).add i=⟨g,i,none⟩:=by
  unfold Addr.add
  by_cases h0:i=0
  ·subst h0;rfl
  ·simp [h0]
 rw [e]
end Go.Proofs.YthdgbgleklkaiaaDoor.Ch
namespace Go.Proofs.YthdgbgleklkaiaaDoor.Ch
open Go.RowKit
theorem zero64 (w:World):(zeroValue 26).run Tryd.prog w = .ok (.agg (arr .u8 (acG 64 0))) w:=by kernel_rfl
theorem Vw:(Tryd.prog.info? 26).map (·.size)=some 64:=by kernel_rfl
theorem rR:(Tryd.prog.info? 23).map (·.size)=some 32:=by kernel_rfl
theorem vC:(Tryd.prog.info? 108).map (·.size)=some 12:=by kernel_rfl
structure Bk (w wr:World) (g h:Nat) (s v:List Int):Prop where
 br:wr.heap[w.heap.size+1+1]? = some (.cells (arr .u8 (acG 64 0)) 26 (0,0))
 bs:wr.heap[g]? = some (.cells (arr .u32 s) 143 (0,0))
 bv:wr.heap[h]? = some (.cells (arr .u32 v) 143 (0,0))
 below:Below w.heap.size w wr
 lt:w.heap.size+1+1 < g
 gh:g < h
theorem Bk.kept {w wr w':World} {g h:Nat} {s v v':List Int} (b:Bk w wr g h s v) (k:Kept (fun x=>x=h) wr w') (hv:w'.heap[h]? = some (.cells (arr .u32 v') 143 (0,0))):Bk w w' g h s v':=by
 have h1:=b.lt
 have h2:=b.gh
 exact ⟨k.blk b.br (by omega),k.blk b.bs (by omega),hv,b.below.trans (k.toBelow b.below.size (by rintro i rfl;omega)),h1,h2⟩
theorem Bk.drew {w wr:World} {g h:Nat} {s v:List Int} (b:Bk w wr g h s v):Bk w wr.drew g h s v:=⟨b.br,b.bs,b.bv,⟨b.below.os,b.below.tape,b.below.output,b.below.size,b.below.block⟩,b.lt,b.gh⟩
theorem Bk.alloc {w wr:World} {g h:Nat} {s v:List Int} (b:Bk w wr g h s v) (o:Obj):Bk w (wr.alloc o) g h s v:=⟨aY b.br o,aY b.bs o,aY b.bv o,b.below.alloc b.below.size o,b.lt,b.gh⟩
theorem Bk.out {w wr:World} {g h:Nat} {s v:List Int} (b:Bk w wr g h s v) (k i:Nat) (u:Value) (hk:h < k):Bk w (wr.setCell ⟨k,i,none⟩ u) g h s v:=by
 have h1:=b.lt
 have h2:=b.gh
 exact ⟨aB b.br _ (by omega),aB b.bs _ (by omega),aB b.bv _ (by omega),b.below.setCell (p:=⟨k,i,none⟩) (by simp;omega) _,h1,h2⟩
theorem out_set (v s:List Int) (i:Nat) (h:i < 64) :
  ((fT v s).take i ++ acG (64 - i) (0:Int)).set i (add (v.getD (i / 4) 0) (s.getD (i / 4) 0) / 2 ^ (8 * (i % 4)) % 256)=(fT v s).take (i+1) ++ acG (64 - (i+1)) 0:=by
 have hl:(fT v s).length=64:=by simp [fT]
 rw [adD _ _ (by simp [hl];omega),show 64 - i=(64 - (i+1))+1 by omega,adE,show i - ((fT v s).take i).length=0 by simp [hl];omega,List.set_cons_zero,gD (fT v s) i 0 (by omega)]
 simp [fT,h]
end Go.Proofs.YthdgbgleklkaiaaDoor.Ch
namespace Go.Proofs.YthdgbgleklkaiaaDoor.Pri
def Pr (p:Nat):Prop:=1 < p∧∀ m,m ∣ p→m=1∨m=p
def pw (n a e:Nat):Nat→Nat
 | 0=>1
 | k+1=>if e / 2 ^ (255 - k) % 2=1 then pw n a e k * pw n a e k % n * a % n else pw n a e k * pw n a e k % n
theorem VQ (n a e:Nat) (he:e < 2 ^ 256):∀ k,k≤256→pw n a e k % n=a ^ (e / 2 ^ (256 - k)) % n
 | 0,_=>by
  rw [acR,adF he]
  rfl
 | k+1,hk=>by
  have ih:=VQ n a e he k (by omega)
  have h1:256 - k=(255 - k)+1:=by omega
  have h2:256 - (k+1)=255 - k:=by omega
  have h3:e / 2 ^ (256 - k)=e / 2 ^ (255 - k) / 2:=by rw [h1,acI,acN]
  have h4:pw n a e k * pw n a e k % n=a ^ (e / 2 ^ (255 - k) / 2 * 2) % n:=by
   rw [acE,ih,← acE,h3,← acF]
   congr 2
   omega
  rw [h2]
  unfold pw
  split
  ·rename_i hb
   rw [acK,acE,h4,acK,← acE,← acI]
   congr 2
   omega
  ·rename_i hb
   rw [acK,h4]
   congr 2
   omega
theorem yB (n a e:Nat) (he:e < 2 ^ 256):pw n a e 256 % n=a ^ e % n:=by
 rw [VQ n a e he 256 (Nat.le_refl _)]
 simp
theorem ET:∀ (m d:Nat) (f:Nat→Nat),(∀ i,i < d→f i < m)→(∀ i j,i < j→j < d→f i≠f j)→d≤m
 | 0,d,f,h,_=>by
  rcases acT d with h0|h0
  ·omega
  ·exact absurd (h 0 h0) (Nat.not_lt_zero _)
 | m+1,d,f,h,hi=>by
  by_cases hx:∃ i,i < d∧f i=m
  ·obtain ⟨i0,h0,e0⟩:=hx
   have:=ET m (d - 1) (fun i=>if i < i0 then f i else f (i+1)) (fun i hid=>by
    show (if i < i0 then f i else f (i+1)) < m
    split
    ·rename_i hlt
     have a1:=h i (by omega)
     have a2:=hi i i0 hlt h0
     omega
    ·rename_i hlt
     have a1:=h (i+1) (by omega)
     have a2:=hi i0 (i+1) (by omega) (by omega)
     omega) (fun i j hij hj=>by
    show (if i < i0 then f i else f (i+1))≠(if j < i0 then f j else f (j+1))
    split <;> split
    ·exact hi i j hij (by omega)
    ·exact hi i (j+1) (by omega) (by omega)
    ·omega
    ·exact hi (i+1) (j+1) (by omega) (by omega))
   omega
  ·have:=ET m d f (fun i hid=>by
    have a1:=h i hid
    have a2:f i≠m:=fun e=>hx ⟨i,hid,e⟩
    omega) hi
   omega
def Ord (l a d:Nat):Prop:=0 < d∧a ^ d % l=1∧∀ e,0 < e→e < d→a ^ e % l≠1
theorem ord_ex (l a:Nat):∀ (n:Nat),0 < n→a ^ n % l=1→∃ d,Ord l a d:=by
 intro n
 induction n using Nat.strongRecOn with
 | _ n ih =>
  intro hn h
  by_cases hx:∃ e,0 < e∧e < n∧a ^ e % l=1
  ·obtain ⟨e,e0,e1,e2⟩:=hx
   exact ih e e1 e0 e2
  ·exact ⟨n,hn,h,fun e e0 e1 e2=>hx ⟨e,e0,e1,e2⟩⟩
theorem lW {l a d:Nat} (hl:1 < l) (h:a ^ d % l=1) (c:Nat):a ^ (d * c) % l=1:=by
 rw [Nat.pow_mul,acL,h,Nat.one_pow,acD hl]
theorem Ord.dvd {l a d n:Nat} (hl:1 < l) (o:Ord l a d) (h:a ^ n % l=1):d ∣ n:=by
 rcases acT (n % d) with h0|h0
 ·exact acU h0
 ·refine absurd ?_ (o.2.2 (n % d) h0 (acM _ o.1))
  have e1:a ^ n=a ^ (d * (n / d)) * a ^ (n % d):=by rw [← acF,adI]
  rw [e1,acE,lW hl o.2.1,Nat.one_mul,acK] at h
  exact h
theorem Ord.ne {l a d i j:Nat} (o:Ord l a d) (hij:i < j) (hj:j < d):a ^ i % l≠a ^ j % l:=by
 intro h
 refine o.2.2 (j - i) (by omega) (by omega) ?_
 have e1:a ^ i * a ^ (d - i) % l=1:=by rw [← acF,show i+(d - i)=d by omega];exact o.2.1
 have e2:a ^ j * a ^ (d - i) % l=a ^ (j - i) % l:=by
  rw [← acF,show j+(d - i)=d+(j - i) by omega,acF,acE,o.2.1,Nat.one_mul,acK]
 rw [← e2,acE,← h,← acE,e1]
theorem Ord.pos {l a d:Nat} (hl:1 < l) (o:Ord l a d) (i:Nat):0 < a ^ i % l:=by
 rcases acT (a ^ i % l) with h|h
 ·have h1:a ^ (d * i) % l=1:=lW hl o.2.1 i
  have h2:a ^ (d * i)=a ^ i * a ^ ((d - 1) * i):=by
   rw [← acF]
   congr 1
   have:d=1+(d - 1):=by have:=o.1;omega
   rw [this]
   simp [Nat.add_mul]
  rw [h2,acE,h,Nat.zero_mul,Nat.zero_mod] at h1
  omega
 ·exact h
theorem Ord.le {l a d:Nat} (hl:1 < l) (o:Ord l a d):d≤l - 1 :=
 ET (l - 1) d (fun i=>a ^ i % l - 1) (fun i _=>by
  show a ^ i % l - 1 < l - 1
  have:=acM (a ^ i) (show l > 0 by omega)
  have:=o.pos hl i
  omega) (fun i j hij hj=>by
  show a ^ i % l - 1≠a ^ j % l - 1
  have:=o.ne hij hj
  have:=o.pos hl i
  have:=o.pos hl j
  omega)
def mul:List Nat→Nat
 | []=>1
 | r :: rs=>r * mul rs
theorem cop {r c:Nat} (hr:Pr r) (h:¬ r ∣ c):Nat.Coprime r c:=by
 rcases hr.2 _ (Nat.gcd_dvd_left r c) with h1|h1
 ·exact h1
 ·exact absurd (h1▸Nat.gcd_dvd_right r c) h
theorem Qu {c:Nat}:∀ (rs:List Nat),(∀ r∈rs,Nat.Coprime r c)→Nat.Coprime (mul rs) c
 | [],_=>Nat.gcd_one_left c
 | r :: rs,h=>Nat.Coprime.mul_left (h r (List.mem_cons_self ..)) (Qu rs fun x hx=>h x (List.mem_cons_of_mem _ hx))
structure Test (N a:Nat) (rs:List Nat):Prop where
 big:1 < N
 lt:N - 1 < 2 ^ 256
 pr:∀ r∈rs,Pr r
 dv:N - 1=mul rs * ((N - 1) / mul rs)
 one:pw N a (N - 1) 256 % N=1
 gc:∀ r∈rs,Nat.gcd (pw N a ((N - 1) / r) 256 % N+(N - 1)) N=1
theorem Test.ord {N a l:Nat} {rs:List Nat} (T:Test N a rs) (hl:1 < l) (hd:l ∣ N):∃ d,Ord l a d∧mul rs ∣ d:=by
 have hN:0 < N:=by have:=T.big;omega
 have h1:a ^ (N - 1) % l=1:=by
  rw [← adL _ hd,← yB N a _ T.lt,T.one,acD hl]
 obtain ⟨d,o⟩:=ord_ex l a (N - 1) (by have:=T.big;omega) h1
 refine ⟨d,o,?_⟩
 obtain ⟨c,hc⟩:=o.dvd hl h1
 have hcop:Nat.Coprime (mul rs) c:=Qu rs fun r hr=>cop (T.pr r hr) fun hrc=>by
  obtain ⟨c',rfl⟩:=hrc
  have hr0:0 < r:=by have:=(T.pr r hr).1;omega
  have e1:(N - 1) / r=d * c':=by
   rw [hc,show d * (r * c')=r * (d * c') by rw [Nat.mul_left_comm],Nat.mul_div_cancel_left _ hr0]
  have e2:pw N a ((N - 1) / r) 256 % N % l=1:=by
   rw [yB N a _ (Nat.lt_of_le_of_lt (Nat.div_le_self _ _) T.lt),adL _ hd,e1]
   exact lW hl o.2.1 c'
  have e3:l ∣ pw N a ((N - 1) / r) 256 % N+(N - 1):=by
   apply acU
   obtain ⟨k,hk⟩:=hd
   rw [acV,e2,← acD hl,← acV,acD hl,show 1+(N - 1)=N by omega,hk,Nat.mul_mod_right]
  have e4:l ∣ 1:=T.gc r hr▸Nat.dvd_gcd e3 hd
  have:=acW (by decide) e4
  omega
 exact hcop.dvd_of_dvd_mul_right (hc▸⟨_,T.dv⟩)
theorem Test.prime {N a:Nat} {rs:List Nat} (T:Test N a rs) (hF:N < (mul rs+1) * (mul rs+1)):Pr N:=by
 have key:∀ l,1 < l→l ∣ N→l * l≤N→False:=by
  intro l hl hd hs
  obtain ⟨d,o,h⟩:=T.ord hl hd
  have h1:=acW o.1 h
  have h2:=o.le hl
  have h3:mul rs+1≤l:=by omega
  have:=Nat.mul_le_mul h3 h3
  omega
 have hN:0 < N:=by have:=T.big;omega
 refine ⟨T.big,fun m hm=>?_⟩
 obtain ⟨k,hk⟩:=hm
 rcases acP (Nat.one_le_iff_ne_zero.2 (show m≠0 by rintro rfl;simp at hk;omega)) with h|hm1
 ·exact Or.inl h.symm
 rcases acP (Nat.one_le_iff_ne_zero.2 (show k≠0 by rintro rfl;simp at hk;omega)) with h|hk1
 ·right;rw [hk,← h,acO]
 exfalso
 rcases Nat.le_total m k with h|h
 ·exact key m hm1 ⟨k,hk⟩ (by rw [hk];exact adO _ h)
 ·exact key k hk1 ⟨m,by rw [hk,acQ]⟩ (by rw [hk];exact adP _ h)
theorem Pr.dvd_mul {p a b:Nat} (h:Pr p) (hd:p ∣ a * b):p ∣ a∨p ∣ b:=by
 by_cases ha:p ∣ a
 ·exact Or.inl ha
 ·exact Or.inr ((cop h ha).dvd_of_dvd_mul_left hd)
theorem Test.vM {N a:Nat} {rs:List Nat} (T:Test N a rs) (hF:mul rs=N - 1) (b:Nat) (hb:b % N≠0):b ^ (N - 1) % N=1:=by
 have hN:=T.big
 obtain ⟨d,o,h⟩:=T.ord T.big (Nat.dvd_refl N)
 rw [hF] at h
 have h1:=acW o.1 h
 have h2:=o.le T.big
 have hd:d=N - 1:=by omega
 subst hd
 by_cases hx:∃ i,i < N - 1∧a ^ i % N=b % N
 ·obtain ⟨i,_,hi⟩:=hx
  rw [acL,← hi,← acL,← Nat.pow_mul,acQ]
  exact lW T.big o.2.1 i
 ·exfalso
  have:=ET (N - 1) N (fun i=>if i < N - 1 then a ^ i % N - 1 else b % N - 1) (fun i hi=>by
   show (if i < N - 1 then a ^ i % N - 1 else b % N - 1) < N - 1
   have:=acM (a ^ i) (show N > 0 by omega)
   have:=acM b (show N > 0 by omega)
   have:=o.pos T.big i
   split <;> omega) (fun i j hij hj=>by
   show (if i < N - 1 then a ^ i % N - 1 else b % N - 1)≠(if j < N - 1 then a ^ j % N - 1 else b % N - 1)
   rw [if_pos (show i < N - 1 by omega)]
   split
   ·rename_i hjl
    have:=o.ne hij hjl
    have:=o.pos T.big i
    have:=o.pos T.big j
    omega
   ·have:a ^ i % N≠b % N:=fun e=>hx ⟨i,by omega,e⟩
    have:=o.pos T.big i
    omega)
  omega
theorem trial {n k:Nat} (hn:1 < n) (hk:n < k * k) (h:(acS k).all (fun m=>decide (m < 2) || n % m != 0)=true):Pr n:=by
 have key:∀ m,1 < m→m ∣ n→m * m≤n→False:=by
  intro m h1 hd hs
  have hlt:m < k:=by
   rcases Nat.lt_or_ge m k with h2|h2
   ·exact h2
   ·have:=Nat.mul_le_mul h2 h2
    omega
  have:=List.all_eq_true.1 h m (List.mem_range.2 hlt)
  simp only [Bool.or_eq_true,decide_eq_true_eq,bne_iff_ne,ne_eq] at this
  rcases this with h3|h3
  ·omega
  ·exact h3 (acX hd)
 refine ⟨hn,fun m hm=>?_⟩
 obtain ⟨c,hc⟩:=hm
 rcases acP (Nat.one_le_iff_ne_zero.2 (show m≠0 by rintro rfl;simp at hc;omega)) with h1|hm1
 ·exact Or.inl h1.symm
 rcases acP (Nat.one_le_iff_ne_zero.2 (show c≠0 by rintro rfl;simp at hc;omega)) with h1|hk1
 ·right;rw [hc,← h1,acO]
 exfalso
 rcases Nat.le_total m c with h1|h1
 ·exact key m hm1 ⟨c,hc⟩ (by rw [hc];exact adO _ h1)
 ·exact key c hk1 ⟨m,by rw [hc,acQ]⟩ (by rw [hc];exact adP _ h1)
theorem pr2:Pr 2:=trial (k:=2) (by decide) (by decide) (by decide)
theorem pr3:Pr 3:=trial (k:=2) (by decide) (by decide) (by decide)
theorem pr127:Pr 127:=trial (k:=12) (by decide) (by decide) (by decide +kernel)
theorem pr4153:Pr 4153:=trial (k:=65) (by decide) (by decide) (by decide +kernel)
theorem pr65147:Pr 65147:=trial (k:=256) (by decide) (by decide) (by decide +kernel)
theorem VX:Pr 430751:=trial (k:=657) (by decide) (by decide) (by decide +kernel)
theorem VW:Pr 569003:=trial (k:=755) (by decide) (by decide) (by decide +kernel)
theorem R7:Pr 8574133:=trial (k:=2929) (by decide) (by decide) (by decide +kernel)
theorem prG:Pr 2773320623:=Test.prime (a:=5) (rs:=[569003]) ⟨by decide,by decide +kernel,by simpa using VW,by decide +kernel,by decide +kernel,by decide +kernel⟩ (by decide +kernel)
theorem prC:Pr 31757755568855353:=Test.prime (a:=2) (rs:=[4153,430751]) ⟨by decide,by decide +kernel,by simpa using ⟨pr4153,VX⟩,by decide +kernel,by decide +kernel,by decide +kernel⟩ (by decide +kernel)
theorem prE:Pr 1919519569386763:=Test.prime (a:=2) (rs:=[127,8574133]) ⟨by decide,by decide +kernel,by simpa using ⟨pr127,R7⟩,by decide +kernel,by decide +kernel,by decide +kernel⟩ (by decide +kernel)
theorem prD:Pr 72106336199:=Test.prime (a:=2) (rs:=[2773320623]) ⟨by decide,by decide +kernel,by simpa using prG,by decide +kernel,by decide +kernel,by decide +kernel⟩ (by decide +kernel)
theorem prM:Pr 75445702479781427272750846543864801:=Test.prime (a:=2) (rs:=[72106336199,1919519569386763]) ⟨by decide,by decide +kernel,by simpa using ⟨prD,prE⟩,by decide +kernel,by decide +kernel,by decide +kernel⟩ (by decide +kernel)
theorem prB:Pr 74058212732561358302231226437062788676166966415465897661863160754340907:=Test.prime (a:=2) (rs:=[31757755568855353,75445702479781427272750846543864801]) ⟨by decide,by decide +kernel,by simpa using ⟨prC,prM⟩,by decide +kernel,by decide +kernel,by decide +kernel⟩ (by decide +kernel)
def P0:Nat:=57896044618658097711785492504343953926634992332820282019728792003956564819949
def fs:List Nat:=[2,2,3,65147,74058212732561358302231226437062788676166966415465897661863160754340907]
theorem tP:Test P0 2 fs:=⟨by decide +kernel,by decide +kernel,by
 intro r hr
 simp only [fs,List.mem_cons,List.not_mem_nil,or_false] at hr
 rcases hr with rfl|rfl|rfl|rfl|rfl
 ·exact pr2
 ·exact pr2
 ·exact pr3
 ·exact pr65147
 ·exact prB,by decide +kernel,by decide +kernel,by decide +kernel⟩
theorem prP:Pr P0:=tP.prime (by decide +kernel)
theorem vM (b:Nat) (hb:b % P0≠0):b ^ (P0 - 1) % P0=1:=tP.vM (by decide +kernel) b hb
end Go.Proofs.YthdgbgleklkaiaaDoor.Pri
namespace Go.Proofs.YthdgbgleklkaiaaDoor.Ed
open Pri
abbrev K:=Fin P0
instance:NeZero P0:=⟨by decide +kernel⟩
def toK (x:Nat):K:=Fin.ofNat P0 x
theorem iZ (x:Nat):(toK x).val=x % P0:=rfl
theorem Ke (x:Nat):toK (x % P0)=toK x:=Fin.ext (by rw [iZ,iZ,acK])
theorem iY (a:K):toK a.val=a:=Fin.ext (by rw [iZ];exact acD a.isLt)
theorem Kg (x y:Nat):toK (x+y)=toK x+toK y:=Fin.ext (by rw [Fin.val_add,iZ,iZ,iZ,← acV])
theorem mo (x y:Nat):toK (x * y)=toK x * toK y:=Fin.ext (by rw [Fin.val_mul,iZ,iZ,iZ,← acE])
theorem to_sub {x y:Nat} (h:y < P0):toK (x+P0 - y)=toK x - toK y:=by
 have h1:toK (x+P0 - y)+toK y=toK x:=by
  rw [← Kg,show x+P0 - y+y=x+P0 by omega]
  exact Fin.ext (by rw [iZ,iZ,Nat.add_mod_right])
 grind
theorem to_eq {x y:Nat}:toK x=toK y↔x % P0=y % P0:=⟨fun h=>by have:=congrArg Fin.val h;rwa [iZ,iZ] at this,fun h=>Fin.ext h⟩
theorem nI {x:Nat}:toK x=0↔x % P0=0:=by
 rw [show (0:K)=toK 0 from rfl,to_eq,Nat.zero_mod]
theorem int {a b:K} (h:a * b=0):a=0∨b=0:=by
 rw [← iY a,← iY b,← mo,nI] at h
 rcases prP.dvd_mul (acU h) with h1|h1
 ·left;rw [← iY a];exact nI.2 (acX h1)
 ·right;rw [← iY b];exact nI.2 (acX h1)
def D0:Nat:=37095705934669439343138083508754565189542113879843219016388785533085940283555
def I0:Nat:=19681161376707505956807079304988542015446066515923890162744021073123829784752
def H0:Nat:=(P0 - 1) / 2
theorem d_half:D0 ^ H0 % P0=P0 - 1:=by
 rw [← yB P0 D0 H0 (by decide +kernel)]
 decide +kernel
theorem non {a b:K} (h:a * a=toK D0 * (b * b)):b=0:=by
 rcases Classical.em (b=0) with hb|hb
 ·exact hb
 exfalso
 have hb':b.val % P0≠0:=fun e=>hb (by rw [← iY b];exact nI.2 e)
 have e1:(a.val * a.val) % P0=(D0 * (b.val * b.val)) % P0:=by
  rw [← to_eq,mo,mo,mo,iY,iY];exact h
 have e2:(a.val * a.val) ^ H0 % P0=(D0 * (b.val * b.val)) ^ H0 % P0:=by
  rw [acL,e1,← acL]
 have h2:H0+H0=P0 - 1:=by decide +kernel
 rw [acY,acY,acY,← acF,← acF,h2,acE,d_half,vM _ hb',acO,acD (show P0 - 1 < P0 by decide +kernel)] at e2
 by_cases ha:a.val % P0=0
 ·rw [acL,ha,Nat.zero_pow (by decide +kernel)] at e2
  exact absurd e2 (by decide +kernel)
 ·rw [vM _ ha] at e2
  exact absurd e2 (by decide +kernel)
theorem mX:Rf (toK D0) where
 int _ _ h:=int h
 im:=⟨toK I0,by decide +kernel⟩
 non _ _ h:=non h
 two:=by decide +kernel
 one:=by decide +kernel
def inv (a:K):K:=toK (a.val ^ (P0 - 2))
theorem dK:Inv inv:=by
 intro a ha
 have h1:a.val % P0≠0:=fun e=>ha (by rw [← iY a];exact nI.2 e)
 unfold inv
 rw [← congrArg (· * toK (a.val ^ (P0 - 2))) (iY a)]
 show toK a.val * toK (a.val ^ (P0 - 2))=1
 rw [← mo,acQ,← acI,show (P0 - 2).succ=P0 - 1 by decide +kernel]
 show toK _=toK 1
 rw [to_eq,vM _ h1]
 decide +kernel
end Go.Proofs.YthdgbgleklkaiaaDoor.Ed
namespace Go.Proofs.YthdgbgleklkaiaaDoor.Ed
section
variable {n:Nat} [NeZero n]
theorem xa (a1 a2 b1 b2 z1 z2:Fin n):(a2*z1+a1*z1)*(b2*z2+b1*z2) - (a2*z1 - a1*z1)*(b2*z2 - b1*z2)=2*z1*z2*(a1*b2+a2*b1):=by grind
theorem xb (a1 a2 b1 b2 z1 z2:Fin n):(a2*z1+a1*z1)*(b2*z2+b1*z2)+(a2*z1 - a1*z1)*(b2*z2 - b1*z2)=2*z1*z2*(a2*b2+a1*b1):=by grind
theorem xc (d a1 a2 b1 b2 z1 z2:Fin n):z1*(z2+z2) - (a1*a2*z1)*(d+d)*(b1*b2*z2)=2*z1*z2*(1 - d*a1*b1*a2*b2):=by grind
theorem xd (d a1 a2 b1 b2 z1 z2:Fin n):z1*(z2+z2)+(a1*a2*z1)*(d+d)*(b1*b2*z2)=2*z1*z2*(1+d*a1*b1*a2*b2):=by grind
theorem xe (w A u m p:Fin n) (h:p*u=1):(w*A)*(w*m)=(A*u)*((w*m)*(w*p)):=by grind
theorem xf (w B v m p:Fin n) (h:m*v=1):(w*p)*(w*B)=(B*v)*((w*m)*(w*p)):=by grind
theorem xg (w A B u v m p:Fin n) (h:p*u=1) (h':m*v=1):(w*A)*(w*B)=(A*u)*(B*v)*((w*m)*(w*p)):=by grind
structure Ext (x y z t:Fin n) (A:Fin n×Fin n):Prop where
 ez:z≠0
 ex:x=A.1 * z
 ey:y=A.2 * z
 et:t=A.1 * A.2 * z
theorem Ext.add {d:Fin n} {inv:Fin n→Fin n} (F:Rf d) (I:Inv inv) {x1 y1 z1 t1 x2 y2 z2 t2:Fin n} {A B:Fin n×Fin n} (hA:Nu d A) (hB:Nu d B)
  (E1:Ext x1 y1 z1 t1 A) (E2:Ext x2 y2 z2 t2 B) {a b c z:Fin n} (ha:a=(y1 - x1)*(y2 - x2)) (hb:b=(y1+x1)*(y2+x2)) (hc:c=t1*(d+d)*t2) (hz:z=z1*(z2+z2)) :
  Ext ((b - a)*(z - c)) ((z+c)*(b+a)) ((z - c)*(z+c)) ((b - a)*(b+a)) (iy d inv A B):=by
 obtain ⟨p1,m1⟩:=whole F hA hB
 have u1:=I _ p1
 have v1:=I _ m1
 have n1:=E1.ez
 have n2:=E2.ez
 have e1:b - a=2*z1*z2*(A.1*B.2+A.2*B.1):=by rw [ha,hb,E1.ex,E1.ey,E2.ex,E2.ey];exact xa _ _ _ _ _ _
 have e2:b+a=2*z1*z2*(A.2*B.2+A.1*B.1):=by rw [ha,hb,E1.ex,E1.ey,E2.ex,E2.ey];exact xb _ _ _ _ _ _
 have e3:z - c=2*z1*z2*(1 - d*A.1*B.1*A.2*B.2):=by rw [hc,hz,E1.et,E2.et];exact xc _ _ _ _ _ _ _
 have e4:z+c=2*z1*z2*(1+d*A.1*B.1*A.2*B.2):=by rw [hc,hz,E1.et,E2.et];exact xd _ _ _ _ _ _ _
 have hw:(2*z1*z2:Fin n)≠0:=jm F (jm F F.two n1) n2
 rw [e1,e2,e3,e4]
 exact ⟨jm F (jm F hw m1) (jm F hw p1),xe _ _ _ _ _ u1,xf _ _ _ _ _ v1,xg _ _ _ _ _ _ _ u1 v1⟩
def times (d:Fin n) (inv:Fin n→Fin n) (A:Fin n×Fin n):Nat→Fin n×Fin n
 | 0=>(0,1)
 | k+1=>iy d inv (times d inv A k) A
theorem on_zero (d:Fin n):Nu d (0,1):=by
 show (1:Fin n)*1=0*0+1+d*(0*0)*(1*1)
 grind
theorem iR {d:Fin n} {inv:Fin n→Fin n} (F:Rf d) (I:Inv inv) {A:Fin n×Fin n} (hA:Nu d A):∀ k,Nu d (times d inv A k)
 | 0=>on_zero d
 | k+1=>EU F I (iR F I hA k) hA
theorem jd {d:Fin n} {inv:Fin n→Fin n} (F:Rf d) (I:Inv inv) {A:Fin n×Fin n} (hA:Nu d A) (j:Nat):∀ k,times d inv A (j+k)=iy d inv (times d inv A j) (times d inv A k)
 | 0=>(add_zero I F.one _).symm
 | k+1=>by
  show iy d inv (times d inv A (j+k)) A=iy d inv _ (iy d inv (times d inv A k) A)
  rw [jd F I hA j k,add_assoc F I (iR F I hA j) (iR F I hA k) hA]
theorem zero_add {d:Fin n} {inv:Fin n→Fin n} (F:Rf d) (I:Inv inv) (A:Fin n×Fin n):iy d inv (0,1) A=A:=by
 rw [add_comm];exact add_zero I F.one A
theorem vw {d:Fin n} {inv:Fin n→Fin n} (F:Rf d) (I:Inv inv) {A:Fin n×Fin n} (hA:Nu d A) (j:Nat):∀ k,times d inv A (j * k)=times d inv (times d inv A j) k
 | 0=>rfl
 | k+1=>by
  show times d inv A (j * k+j)=iy d inv (times d inv (times d inv A j) k) _
  rw [jd F I hA,vw F I hA j k]
theorem zm {d:Fin n} {inv:Fin n→Fin n} (F:Rf d) (I:Inv inv):∀ k,times d inv (0,1) k=(0,1)
 | 0=>rfl
 | k+1=>by
  show iy d inv (times d inv (0,1) k) (0,1)=(0,1)
  rw [zm F I k,add_zero I F.one]
theorem Rq {d:Fin n} {inv:Fin n→Fin n} (F:Rf d) (I:Inv inv) {A:Fin n×Fin n} (hA:Nu d A) {q:Nat} (hq:times d inv A q=(0,1)) (k:Nat):times d inv A (k % q)=times d inv A k:=by
 have h:times d inv A k=iy d inv (times d inv A (q * (k / q))) (times d inv A (k % q)):=by
  rw [← jd F I hA,adI]
 rw [h,vw F I hA,hq,zm F I,zero_add F I]
end
end Go.Proofs.YthdgbgleklkaiaaDoor.Ed
namespace Go.Proofs.YthdgbgleklkaiaaDoor.Ed
open Go.RowKit Lm Fp Cu Pri
theorem R8:Fp.p=P0:=rfl
theorem ED (x y:Nat):toK (aL x y)=toK x+toK y:=by rw [aL,R8,Ke,Kg]
theorem gK (x y:Nat):toK (aA x y)=toK x * toK y:=by rw [aA,R8,Ke,mo]
theorem kM (x:Nat) {y:Nat} (h:y < Fp.p):toK (aX x y)=toK x - toK y:=by rw [aX,R8,Ke,to_sub h]
structure Is (P:Pt) (A:K×K):Prop where
 ok:P.Ok
 ext:Ext (toK P.x) (toK P.y) (toK P.z) (toK P.t) A
abbrev add (A B:K×K):K×K:=iy (toK D0) inv A B
abbrev on (A:K×K):Prop:=Nu (toK D0) A
abbrev tm (A:K×K) (k:Nat):K×K:=times (toK D0) inv A k
theorem d_is:dd=D0:=rfl
theorem Is.add {P Q:Pt} {A B:K×K} (hP:Is P A) (hQ:Is Q B) (hA:on A) (hB:on B):Is (Cu.iy P Q) (add A B):=by
 refine ⟨eadd_ok P Q,?_⟩
 have h:=Ext.add mX dK hA hB hP.ext hQ.ext rfl rfl rfl rfl
 simp only [Cu.iy,gK,ED,kM _ (dH _ _),kM _ hP.ok.x,kM _ hQ.ok.x,d_is]
 exact h
theorem Is.nought:Is nought (0,1):=⟨Sd,⟨by decide +kernel,by decide +kernel,by decide +kernel,by decide +kernel⟩⟩
theorem Is.mul {P:Pt} {A:K×K} (hP:Is P A) (hA:on A) (k:Nat) (hk:k < 2 ^ 256):∀ n,n≤256→Is (ku P k n) (tm A (k / 2 ^ (256 - n)))
 | 0,_=>by
  rw [acR,adF hk]
  exact Is.nought
 | n+1,hn=>by
  have ih:=Is.mul hP hA k hk n (by omega)
  have ho:=iR mX dK hA (k / 2 ^ (256 - n))
  have h2:=ih.add ih ho ho
  have h1:256 - n=(255 - n)+1:=by omega
  have h3:k / 2 ^ (256 - n)=k / 2 ^ (255 - n) / 2:=by rw [h1,acI,acN]
  rw [show 256 - (n+1)=255 - n by omega]
  rw [show Ed.add (tm A (k / 2 ^ (256 - n))) (tm A (k / 2 ^ (256 - n)))=tm A (k / 2 ^ (256 - n)+k / 2 ^ (256 - n)) from (jd mX dK hA _ _).symm,h3] at h2
  unfold ku
  split
  ·rename_i hb
   have e:k / 2 ^ (255 - n)=k / 2 ^ (255 - n) / 2+k / 2 ^ (255 - n) / 2+1:=by omega
   rw [e]
   exact h2.add hP (iR mX dK hA _) hA
  ·rename_i hb
   have e:k / 2 ^ (255 - n)=k / 2 ^ (255 - n) / 2+k / 2 ^ (255 - n) / 2:=by omega
   rw [e]
   exact h2
theorem Is.Ij {P:Pt} {A:K×K} (hP:Is P A) (hA:on A) (k:Nat) (hk:k < 2 ^ 256):Is (ku P k 256) (tm A k):=by
 have h:=hP.mul hA k hk 256 (Nat.le_refl _)
 rwa [show 256 - 256=0 from rfl,Nat.pow_zero,Nat.div_one] at h
def B0:K×K:=(toK bx,toK bY)
theorem Is.base:Is base B0:=⟨base_ok,⟨by decide +kernel,by decide +kernel,by decide +kernel,by decide +kernel⟩⟩
theorem kR:on B0:=by
 show toK bY * toK bY=toK bx * toK bx+1+toK D0 * (toK bx * toK bx) * (toK bY * toK bY)
 decide +kernel
theorem Ext.zero {x y z t:K} {A:K×K} (h:Ext x y z t A) (hx:x=0) (hy:y=z):A=(0,1):=by
 have h1:A.1 * z=0:=by rw [← h.ex,hx]
 have h2:(A.2 - 1) * z=0:=by
  have:=h.ey
  rw [hy] at this
  grind
 refine Prod.ext ((int h1).resolve_right h.ez) ?_
 have:=(int h2).resolve_right h.ez
 show A.2=1
 grind
theorem base_q:tm B0 Sc.q=(0,1):=by
 have h:=Is.base.Ij kR Sc.q (by decide +kernel)
 have e:(ku base Sc.q 256).x=0∧(ku base Sc.q 256).y=(ku base Sc.q 256).z:=by decide +kernel
 exact h.ext.zero (by rw [e.1];rfl) (by rw [e.2])
end Go.Proofs.YthdgbgleklkaiaaDoor.Ed
namespace Go.Proofs.YthdgbgleklkaiaaDoor.Ed
open Go.RowKit Lm Fp Cu Pri
def LtP (s:La):Prop:=s.a < p∧s.b < p∧s.c < p∧s.d < p
theorem WL (x:Nat) (s:La):LtP (lY x s):=⟨dH _ _,dH _ _,dH _ _,dH _ _⟩
theorem swap_lt {s:La} (h:LtP s) (b:Nat):LtP (s.swap b):=by
 unfold La.swap
 split
 ·exact ⟨h.2.2.1,h.2.2.2,h.1,h.2.1⟩
 ·exact h
theorem lstep_k (x:Nat) (s:La) (h:LtP s) :
  toK (lY x s).a=(toK s.a+toK s.b) * (toK s.a+toK s.b) * ((toK s.a - toK s.b) * (toK s.a - toK s.b)) ∧
  toK (lY x s).b=((toK s.a+toK s.b) * (toK s.a+toK s.b) - (toK s.a - toK s.b) * (toK s.a - toK s.b)) * ((toK s.a+toK s.b) * (toK s.a+toK s.b)+toK 121665 * ((toK s.a+toK s.b) * (toK s.a+toK s.b) - (toK s.a - toK s.b) * (toK s.a - toK s.b))) ∧
  toK (lY x s).c=((toK s.c - toK s.d) * (toK s.a+toK s.b)+(toK s.c+toK s.d) * (toK s.a - toK s.b)) * ((toK s.c - toK s.d) * (toK s.a+toK s.b)+(toK s.c+toK s.d) * (toK s.a - toK s.b)) ∧
  toK (lY x s).d=toK x * (((toK s.c - toK s.d) * (toK s.a+toK s.b) - (toK s.c+toK s.d) * (toK s.a - toK s.b)) * ((toK s.c - toK s.d) * (toK s.a+toK s.b) - (toK s.c+toK s.d) * (toK s.a - toK s.b))):=by
 unfold lY
 simp only [gK,ED,kM _ h.2.1,kM _ h.2.2.2,kM _ (dH _ _)]
 exact ⟨trivial,trivial,trivial,trivial⟩
theorem J3 (a:K):(0:K) * a=0:=by grind
theorem lgo_lt (x k:Nat) (hx:x < p):∀ n,LtP (Fb x k n)
 | 0=>⟨show 1 < p by decide,show 0 < p by decide,hx,show 1 < p by decide⟩
 | n+1=>swap_lt (WL _ _) _
end Go.Proofs.YthdgbgleklkaiaaDoor.Ed
