/- Numbers as rows of digits, in plain words. Bytes: Reckoning modulo 2^2. Condition: as each theorem says. -/
import Derived.Deep.AppendLies
import Derived.Deep.OwnRows
import Derived.Laws.BytesArg
import Derived.Laws.CopyOwn
import Derived.Laws.OwnMore
import Derived.Maps.AppendAt
import Derived.OwnWalk
import Derived.RegionTactic
import Derived.WalkSpells
import Derived.Test.YthdgbgleklkaiaaGreatDoorQc01
open List renaming getD→abC,replicate→abE,length_cons→abH,getElem?_map→abK,map_cons→abL,eq_nil_of_length_eq_zero→abM,ext_getElem→abO,getD_cons_succ→abR,mem_of_getElem?→abS,getElem?_eq_none→abY
open Nat renaming pow_succ→abD,mul_comm→abF,mod_lt→abG,mod_eq_of_lt→abI,le_refl→abJ,lt_or_ge→abN,eq_zero_or_pos→abX,mod_eq_sub_mod→abZ
open Int renaming add_mul_emod_self_left→acC
set_option linter.unusedSimpArgs false
set_option linter.unusedVariables false
namespace Go.Proofs.YthdgbgleklkaiaaGreatDoor.Lm
open Go.RowKit
def val (b:Nat):List Nat→Nat
 | []=>0
 | x :: xs=>x+b * val b xs
def bD (b:Nat):Nat→Nat→List Nat
 | 0,_=>[]
 | n+1,v=>v % b :: bD b n (v / b)
theorem aK (b:Nat):∀ n v,(bD b n v).length=n
 | 0,_=>rfl
 | n+1,v=>by simp [bD,aK b n]
theorem fA (b:Nat):∀ n v,val b (bD b n v)=v % b ^ n
 | 0,v=>by simp [bD,val,Nat.mod_one]
 | n+1,v=>by
  rw [bD,val,fA b n,abD,abF (b ^ n) b,Nat.mod_mul]
theorem iw (b:Nat) (hb:0 < b):∀ n v,∀ x∈bD b n v,x < b
 | 0,_,x,h=>by simp [bD] at h
 | n+1,v,x,h=>by
  rw [bD,List.mem_cons] at h
  rcases h with rfl|h
  ·exact abG _ hb
  ·exact iw b hb n _ x h
theorem qW (b:Nat):∀ xs:List Nat,(∀ x∈xs,x < b)→val b xs < b ^ xs.length
 | [],_=>by simp [val]
 | x :: xs,h=>by
  have h1:=h x (by simp)
  have h2:=qW b xs (fun y hy=>h y (by simp [hy]))
  rw [val,abH,abD]
  have h3:b * (val b xs+1)≤b * b ^ xs.length:=Nat.mul_le_mul_left b h2
  rw [abF (b ^ xs.length) b]
  rw [Nat.mul_add] at h3
  omega
theorem Gb (b:Nat) (hb:0 < b):∀ xs:List Nat,(∀ x∈xs,x < b)→bD b xs.length (val b xs)=xs
 | [],_=>rfl
 | x :: xs,h=>by
  have h1:=h x (by simp)
  rw [abH,bD,val,Nat.add_mul_mod_self_left,abI h1,Nat.add_mul_div_left _ _ hb,Nat.div_eq_of_lt h1,Nat.zero_add,Gb b hb xs (fun y hy=>h y (by simp [hy]))]
theorem nV (b:Nat) (hb:0 < b) (n v:Nat) (xs:List Nat) (hl:xs.length=n) (h:∀ x∈xs,x < b) (hv:val b xs=v):xs=bD b n v:=by
 subst hl hv
 exact (Gb b hb xs h).symm
theorem dn (b:Nat):∀ n v i,i < n→(bD b n v).getD i 0=v / b ^ i % b
 | 0,_,_,h=>by omega
 | n+1,v,0,_=>by simp [bD]
 | n+1,v,i+1,h=>by
  rw [bD,abR,dn b n _ i (by omega),Nat.div_div_eq_div_mul,abD,abF b]
theorem val_append (b:Nat):∀ xs ys:List Nat,val b (xs ++ ys)=val b xs+b ^ xs.length * val b ys
 | [],ys=>by simp [val]
 | x :: xs,ys=>by
  rw [List.cons_append,val,val,val_append b xs ys,abH,abD]
  grind
theorem bT (b:Nat) (xs:List Nat) (i:Nat) (h:i < xs.length):val b (xs.take (i+1))=val b (xs.take i)+b ^ i * xs.getD i 0:=by
 rw [List.take_succ_eq_append_getElem h,val_append]
 simp [val,abC,h,Nat.min_eq_left (Nat.le_of_lt h)]
theorem kI (b:Nat) (xs:List Nat) (i v:Nat) (h:i < xs.length):val b ((xs.set i v).take (i+1))=val b (xs.take i)+b ^ i * v:=by
 rw [bT _ _ _ (by simpa using h),List.take_set_of_le (abJ i)]
 simp [abC,h]
theorem nG (b:Nat):∀ (xs:List Nat) (i v:Nat),i < xs.length→val b (xs.set i v)+b ^ i * xs.getD i 0=val b xs+b ^ i * v
 | [],i,v,h=>by simp at h
 | x :: xs,0,v,_=>by
  simp [val]
  omega
 | x :: xs,i+1,v,h=>by
  have ih:=nG b xs i v (by simpa using h)
  rw [List.set_cons_succ,val,val,abR,abD]
  grind
theorem mI (b n:Nat):val b (abE n 0)=0:=by
 induction n with
 | zero=>rfl
 | succ n ih=>rw [List.replicate_succ,val,ih];simp
theorem dA {b:Nat} {xs:List Nat} (h:∀ x∈xs,x < b) (hb:0 < b) (i:Nat):xs.getD i 0 < b:=by
 simp only [abC]
 cases e:xs[i]? with
 | none=>simpa using hb
 | some y=>simpa using h y (abS e)
theorem jN {b:Nat} {xs:List Nat} (h:∀ x∈xs,x < b) (i v:Nat) (hv:v < b):∀ x∈xs.set i v,x < b:=by
 intro x hx
 rcases List.mem_or_eq_of_mem_set hx with h1|rfl
 ·exact h x h1
 ·exact hv
def aW (xs:List Nat):List Int:=xs.map Int.ofNat
theorem aG (xs:List Nat):(aW xs).length=xs.length:=by simp [aW]
theorem bH (xs:List Nat) (i:Nat):(aW xs).getD i 0=((xs.getD i 0:Nat):Int):=by
 simp only [aW,abC,abK]
 cases xs[i]? <;> rfl
theorem cZ (xs:List Nat) (i v:Nat):aW (xs.set i v)=(aW xs).set i (v:Int):=by simp [aW,List.map_set]
theorem iM (n:Nat):aW (abE n 0)=abE n 0:=by simp [aW]
theorem K9 (xs:List Int) (h:∀ x∈xs,0≤x):aW (xs.map Int.toNat)=xs:=by
 induction xs with
 | nil=>rfl
 | cons x xs ih =>
  have h1:=h x (by simp)
  rw [abL,aW,abL]
  rw [show List.map Int.ofNat (List.map Int.toNat xs)=xs from ih (fun y hy=>h y (by simp [hy]))]
  congr 1
  exact Int.toNat_of_nonneg h1
theorem JU (b i X Y S x y c s c':Nat) (h:S+b ^ i * c=X+Y) (hs:s+b * c'=x+y+c):S+b ^ i * s+b ^ (i+1) * c'=(X+b ^ i * x)+(Y+b ^ i * y):=by
 rw [abD]
 have:b ^ i * (s+b * c')=b ^ i * (x+y+c):=by rw [hs]
 grind
theorem VO (b i X Y S x y c s c':Nat) (h:S+Y=X+b ^ i * c) (hs:s+y+c=x+b * c'):(S+b ^ i * s)+(Y+b ^ i * y)=(X+b ^ i * x)+b ^ (i+1) * c':=by
 rw [abD]
 have:b ^ i * (s+y+c)=b ^ i * (x+b * c'):=by rw [hs]
 grind
end Go.Proofs.YthdgbgleklkaiaaGreatDoor.Lm
namespace Go.Proofs.YthdgbgleklkaiaaGreatDoor
open Go.RowKit
def jV (b:List Int) (sp:List Value):Array Value:=(b.map (Value.int .u8) ++ sp).toArray
structure Src (w:World) (sa:Option Addr) (n:Nat) (xs:List Int):Prop where
 len:xs.length=n
 cell:∀ i,i < n→∃ a,sa=some a∧w.cell? (a.add i)=some (.int .u8 (xs.getD i 0))
theorem sV (b:List Int) (sp:List Value) (i:Nat) (h:i < b.length):(jV b sp)[i]? = some (.int .u8 (b.getD i 0)):=by
 unfold jV
 rw [List.getElem?_toArray,List.getElem?_append_left (by simpa using h)]
 simp [abC,h]
theorem Wo (b:List Int) (sp:List Value) (i:Nat) (h:i < b.length) (x:Int):(jV b sp).setIfInBounds i (.int .u8 x)=jV (b.set i x) sp:=by
 unfold jV
 rw [List.setIfInBounds_toArray,List.set_append_left _ _ (by simpa using h),List.map_set]
theorem Kept.lV {T:Nat→Prop} {a b:World} (h:Kept T a b) {x:Addr} {v:Value} (hx:a.cell? x=some v) (ht:¬ T x.block):b.cell? x=some v :=
 (World.cell?_of_block (h.block x.block (World.block_lt_of_cell? a x hx) ht)).trans hx
theorem block_add (a:Addr) (n:Nat):(a.add n).block=a.block:=by unfold Addr.add;split <;> rfl
theorem nL:(Tryz.prog.info? 5).map (·.size)=some 1:=by kernel_rfl
def kg (w:World) (B:Nat) (v:Value) (xs:List Int):Prop :=
 ∃ g cap sp,v = .slice (some ⟨g,0,none⟩) xs.length cap∧B≤g∧w.heap[g]? = some (.cells (jV xs sp) 5 (0,0))∧cap=xs.length+sp.length∧cap≤maxLen
theorem kg.KY {w:World} {B:Nat} {v:Value} {xs:List Int} (h:w.ownsRow B 5 1 v xs.length (xs.map (Value.int .u8))) (hv:v ≠ .slice none 0 0):kg w B v xs:=by
 obtain ⟨h1,h2⟩:=h
 rcases h2 with ⟨rfl,_⟩|⟨g,cap,cur,rfl,hB,hg,hn,hm,hs,ht⟩
 ·exact absurd rfl hv
 ·refine ⟨g,cap,cur.toList.drop xs.length,rfl,hB,?_,?_,hm⟩
  ·rw [hg]
   congr 2
   unfold jV
   rw [← ht]
   simp
  ·simp [hs];omega
theorem yD:(Tryz.prog.info? 5).map (fun i=>(i.zero,i.size,i.bytes))=some (some (.int .u8 0),1,1):=by kernel_rfl
theorem kg.str {w:World} {B:Nat} {v:Value} {xs:List Int} (h:kg w B v xs):(convert 22 9 v).run Tryz.prog w = .ok (.string (strOfNums xs)) w:=by
 obtain ⟨g,cap,sp,rfl,_,hg,_,_⟩:=h
 refine run_convert_bytes_arg w 22 5 Tryz.underlying22 Tryz.underlying5 g 0 _ _ xs rfl (fun i hi=>?_) 9 Tryz.underlying9
 rw [Nat.zero_add,aF hg,sV _ _ _ hi]
theorem kg.kept {T:Nat→Prop} {w w':World} {B:Nat} {v:Value} {xs:List Int} (h:kg w B v xs) (k:Kept T w w') (hT:∀ g,B≤g→g < w.heap.size→¬ T g):kg w' B v xs:=by
 obtain ⟨g,cap,sp,hv,hB,hg,h1,h2⟩:=h
 exact ⟨g,cap,sp,hv,hB,k.blk hg (hT g hB (aV hg)),h1,h2⟩
theorem kg.mono {w:World} {B B':Nat} {v:Value} {xs:List Int} (h:kg w B v xs) (hB:B'≤B):kg w B' v xs:=by
 obtain ⟨g,cap,sp,hv,h0,hg,h1,h2⟩:=h
 exact ⟨g,cap,sp,hv,by omega,hg,h1,h2⟩
theorem kg.drewN {w:World} {B:Nat} {v:Value} {xs:List Int} (h:kg w B v xs) (n:Nat):kg (w.drewN n) B v xs:=h
def zeros (n:Nat):List Int:=abE n 0
theorem made8 (n:Nat):madeCells #[Value.int .u8 0] n=jV (zeros n) []:=by
 unfold jV zeros
 apply Array.ext
 ·simp [size_madeCells]
 ·intro i h1 h2
  simp [madeCells,Nat.mod_one]
theorem mk8 (n:Nat) (hn:n≤1099511627776) (w:World) :
  (Instr.makeSlice 22 (.int .i64 (n:Int)) (.int .i64 (n:Int))).run Tryz.prog w = .ok (.slice (some ⟨w.heap.size,0,none⟩) n n) (w.alloc (.cells (jV (zeros n) []) 5)):=by
 rw [← made8]
 exact run_make_row' 22 5 (.int .u8 0) 1 Tryz.underlying22 yD rfl .i64 .i64 n (by omega) (by omega) w
theorem Px {w:World} {b:Nat} {xs:List Int} {sp:List Value} (h:w.heap[b]? = some (.cells (jV xs sp) 5 (0,0))):Src w (some ⟨b,0,none⟩) xs.length xs:=by
 refine ⟨rfl,fun i hi=>⟨_,rfl,?_⟩⟩
 have e:(⟨b,0,none⟩:Addr).add i=⟨b,i,none⟩:=by unfold Addr.add;split <;> simp_all
 rw [e,aF h,sV _ _ _ hi]
def aU (w:World) (B:Nat) (v:Value) (xs:List Int):Prop:=w.ownsRow B 5 1 v xs.length (xs.map (Value.int .u8))
theorem aU.nil (w:World) (B:Nat):aU w B (.slice none 0 0) []:=⟨by simp, .inl ⟨rfl,rfl⟩⟩
theorem aU.Qc {w:World} {B:Nat} {v:Value} {xs:List Int} (h:kg w B v xs):aU w B v xs:=by
 obtain ⟨g,cap,sp,rfl,hB,hg,hc,hm⟩:=h
 refine ⟨by simp, .inr ⟨g,cap,_,rfl,hB,hg,by omega,hm,by simp [jV];omega,?_⟩⟩
 simp [jV]
theorem nK {w:World} {g:Nat} {cur:Array Value} {fr:Nat×Nat} {t:TypeId} {xs:List Int} {m:Nat} (hg:w.heap[g]? = some (.cells cur t fr)) (ht:cur.toList.take (xs.length * 1)=xs.map (Value.int .u8)) (hm:xs.length=m) :
  Src w (some ⟨g,0,none⟩) m xs:=by
 subst hm
 refine ⟨rfl,fun i hi=>⟨_,rfl,?_⟩⟩
 have e:(⟨g,0,none⟩:Addr).add i=⟨g,i,none⟩:=by unfold Addr.add;split <;> simp_all
 have hl:=congrArg (fun l=>l[i]?) ht
 simp only [Nat.mul_one,List.getElem?_take,hi,if_true,abK] at hl
 have hx:xs[i]? = some (xs.getD i 0):=by simp [abC,hi]
 rw [e,World.cell?]
 simp only [hg]
 rw [hx] at hl
 simpa using hl
theorem aU.form {w:World} {B:Nat} {v:Value} {xs:List Int} (h:aU w B v xs) :
  ∃ sa c,v = .slice sa xs.length c∧xs.length≤c∧c≤maxLen∧Src w sa xs.length xs∧((sa=none∧xs=[]∧c=0)∨∃ g,sa=some ⟨g,0,none⟩∧B≤g∧g < w.heap.size):=by
 obtain ⟨h1,h2⟩:=h
 rcases h2 with ⟨rfl,h0⟩|⟨g,cap,cur,rfl,hB,hg,hn,hm,hs,ht⟩
 ·have:xs=[]:=abM h0
  subst this
  exact ⟨none,0,rfl,by simp,by simp [maxLen],⟨rfl,fun i hi=>absurd hi (by simp)⟩, .inl ⟨rfl,rfl,rfl⟩⟩
 ·exact ⟨_,cap,rfl,hn,hm,nK hg ht rfl, .inr ⟨g,rfl,hB,aV hg⟩⟩
theorem aU.kept {T:Nat→Prop} {w w':World} {B:Nat} {v:Value} {xs:List Int} (h:aU w B v xs) (k:Kept T w w') (hT:∀ g,v.ownBlock=some g→¬ T g):aU w' B v xs:=by
 obtain ⟨h1,h2⟩:=h
 refine ⟨h1,?_⟩
 rcases h2 with h0|⟨g,cap,cur,rfl,hB,hg,hr⟩
 ·exact .inl h0
 ·exact .inr ⟨g,cap,cur,rfl,hB,k.blk hg (hT g rfl),hr⟩
theorem aU.below {w w':World} {B:Nat} {v:Value} {xs:List Int} (h:aU w B v xs) (k:Below w.heap.size w w'):aU w' B v xs :=
 h.kept (T:=fun _=>False) (Kept.of_below k) (fun _ _=>id)
theorem aU.drewN {w:World} {B:Nat} {v:Value} {xs:List Int} (h:aU w B v xs) (n:Nat):aU (w.drewN n) B v xs:=h
theorem aU.drew {w:World} {B:Nat} {v:Value} {xs:List Int} (h:aU w B v xs):aU w.drew B v xs:=h
theorem aU.alloc {w:World} {B:Nat} {v:Value} {xs:List Int} (h:aU w B v xs) (o:Obj):aU (w.alloc o) B v xs:=h.below ((Below.refl _ w).alloc (abJ _) o)
theorem aU.mono {w:World} {B B':Nat} {v:Value} {xs:List Int} (h:aU w B v xs) (hB:B'≤B):aU w B' v xs:=by
 obtain ⟨h1,h2⟩:=h
 refine ⟨h1,?_⟩
 rcases h2 with h0|⟨g,cap,cur,rfl,hb,hr⟩
 ·exact .inl h0
 ·exact .inr ⟨g,cap,cur,rfl,by omega,hr⟩
theorem aU.lt {w:World} {B:Nat} {v:Value} {xs:List Int} (h:aU w B v xs):∀ k,v.ownBlock=some k→B≤k∧k < w.heap.size:=World.ownsRow.lt h
theorem aU.len {w:World} {B:Nat} {v:Value} {xs:List Int} (h:aU w B v xs):xs.length≤maxLen:=by
 obtain ⟨_,c,_,h1,h2,_⟩:=h.form
 omega
theorem src_str {w:World} {sa:Option Addr} {n c:Nat} {xs:List Int} (h:Src w sa n xs) (hp:∀ a,sa=some a→a.spot=none):(convert 22 9 (.slice sa n c)).run Tryz.prog w = .ok (.string (strOfNums xs)) w:=by
 cases sa with
 | none =>
  have h0:n=0:=by
   rcases abX n with h0|h0
   ·exact h0
   ·obtain ⟨_,he,_⟩:=h.cell 0 h0
    cases he
  have hx:xs=[]:=abM (h.len.trans h0)
  subst hx
  exact run_convert_bytes_nil w 22 5 Tryz.underlying22 Tryz.underlying5 n c 9 Tryz.underlying9
 | some a =>
  obtain ⟨b,off,el⟩:=a
  have:el=none:=hp _ rfl
  subst this
  refine run_convert_bytes_arg w 22 5 Tryz.underlying22 Tryz.underlying5 b off n c xs h.len (fun i hi=>?_) 9 Tryz.underlying9
  obtain ⟨a',he,hc⟩:=h.cell i hi
  cases he
  have e:(⟨b,off,none⟩:Addr).add i=⟨b,off+i,none⟩:=by unfold Addr.add;split <;> simp_all
  rwa [e] at hc
theorem aU.str {w:World} {B:Nat} {v:Value} {xs:List Int} (h:aU w B v xs):(convert 22 9 v).run Tryz.prog w = .ok (.string (strOfNums xs)) w:=by
 obtain ⟨sa,c,rfl,_,_,hs,hf⟩:=h.form
 refine src_str hs (fun a ha=>?_)
 rcases hf with ⟨rfl,_⟩|⟨g,rfl,_⟩
 ·cases ha
 ·cases ha;rfl
theorem Src.kept {T:Nat→Prop} {w w':World} {sa:Option Addr} {n:Nat} {xs:List Int} (h:Src w sa n xs) (k:Kept T w w') (hT:∀ a,sa=some a→n=0∨¬ T a.block):Src w' sa n xs:=by
 refine ⟨h.len,fun i hi=>?_⟩
 obtain ⟨a,he,hc⟩:=h.cell i hi
 refine ⟨a,he,k.lV hc ?_⟩
 rw [block_add]
 rcases hT a he with h0|h0
 ·omega
 ·exact h0
theorem Src.below {w w':World} {sa:Option Addr} {n:Nat} {xs:List Int} (h:Src w sa n xs) (k:Below w.heap.size w w'):Src w' sa n xs :=
 h.kept (T:=fun _=>False) (Kept.of_below k) (fun _ _ => .inr id)
theorem jq {w:World} {sa:Option Addr} {n:Nat} {xs:List Int} (h:Src w sa n xs) (a:Addr) (ha:sa=some a):∀ j u,(xs.map (Value.int .u8))[j]? = some u→w.cell? (a.add j)=some u:=by
 intro j u hj
 rw [abK] at hj
 have hjl:j < xs.length:=by
  rcases abN j xs.length with q|q
  ·exact q
  ·rw [abY q] at hj;cases hj
 obtain ⟨a',he,hc⟩:=h.cell j (by rw [← h.len];exact hjl)
 rw [ha] at he
 cases he
 rw [hc]
 simp [hjl] at hj
 simp [abC,hjl,hj]
theorem mQ (k:IntKind) (xs:List Int):∀ u∈xs.map (Value.int k),u.oneCell'=true:=by
 intro u hu
 obtain ⟨x,_,rfl⟩:=List.mem_map.1 hu
 rfl
theorem Wm {w:World} {B:Nat} {v:Value} {xs ys:List Int} {sa:Option Addr} {m c:Nat} {ty:TypeId} (hown:aU w B v xs) (hsrc:Src w sa m ys) (hlen:xs.length+m≤140737488355328) (hbase:B≤w.heap.size) :
  ∃ v' w',(Builtin.append_ #[22, 22] ty #[v, .slice sa m c]).run Tryz.prog w = .ok v' w'∧aU w' B v' (xs ++ ys)∧w.grownBy w' v.ownBlock ∧
   (v' = .slice none 0 0↔v = .slice none 0 0∧m=0)∧(v'.ownBlock=v.ownBlock∨v'.ownBlock=some w.heap.size):=by
 obtain ⟨i0,hi,hz0,hz1,hz2⟩:=info_parts yD
 cases sa with
 | none =>
  have h0:m=0:=by
   rcases abX m with h0|h0
   ·exact h0
   ·obtain ⟨_,he,_⟩:=hsrc.cell 0 h0
    cases he
  have hy:ys=[]:=abM (hsrc.len.trans h0)
  subst hy
  subst h0
  refine ⟨v,w,?_,by rw [List.append_nil];exact hown,⟨rfl,rfl,rfl,abJ _,fun _ _ _=>rfl⟩,by simp, .inl rfl⟩
  rcases hown.2 with ⟨rfl,h0⟩|⟨g,cap,cur,rfl,_,_,hnc,_⟩
  ·simp [Builtin.append_,run_underlying Tryz.underlying22, sizeOf,typeInfo,hi,Builtin.lenOf,Builtin.firstCells]
  ·simp [Builtin.append_,run_underlying Tryz.underlying22, sizeOf,typeInfo,hi,Builtin.lenOf,Builtin.firstCells,hnc,storeCells]
 | some a =>
  obtain ⟨v',w',h1,h2,h3,h4,h5⟩:=run_append_own_at (P := Tryz.prog) w B 22 ty 5 i0 (.int .u8 0) 1 1 Tryz.underlying22 hi hz0 hz1 hz2 rfl (by decide) v xs.length (xs.map (Value.int .u8)) hown a m c (ys.map (Value.int .u8))
   (by simp [hsrc.len]) (jq hsrc a rfl) (mQ _ _) (by unfold maxLen;omega) (by omega) hbase
  refine ⟨v',w',h1,?_,h3,h4,h5⟩
  unfold aU
  rw [List.length_append,hsrc.len,List.map_append]
  exact h2
theorem Pn {w:World} {o:Oper} {a:Act} {K:Act→World→Prop} {Q:Exit→Act→World→Prop} (s x:Operand)
  (ho:o.op = .call { callee := .builtin .append,args := #[s,x],argTypes := #[22, 22] })
  (B:Nat) (v:Value) (xs:List Int) (hs:a.eval s=v) (hown:aU w B v xs) (sa:Option Addr) (m c:Nat) (ys:List Int) (hx:a.eval x = .slice sa m c) (hsrc:Src w sa m ys)
  (hlen:xs.length+m≤140737488355328) (hbase:B≤w.heap.size)
  (h:∀ v' w',aU w' B v' (xs ++ ys)→w.grownBy w' v.ownBlock→(v' = .slice none 0 0↔v = .slice none 0 0∧m=0)→(v'.ownBlock=v.ownBlock∨v'.ownBlock=some w.heap.size)→K (a.put o.dst v') w'):o.wp Tryz.prog a w K Q:=by
 obtain ⟨v',w',hr,h2,h3,h4,h5⟩:=Wm (ty:=o.type) (c:=c) hown hsrc hlen hbase
 unfold Oper.wp execOp
 simp only [ho,resolve,invoke,builtin,Sem.run_bind,Sem.run_pure,Result.andThen_ok,List.map_toArray,abL,List.map_nil,hs,hx,hr]
 exact h v' w' h2 h3 h4 h5
theorem aX {w:World} {ops:Array Oper} {rest:List Oper} {o:Oper} {a:Act} {Q:Exit→Act→World→Prop} (hgd:o.guard=none) (s x:Operand)
  (ho:o.op = .call { callee := .builtin .append,args := #[s,x],argTypes := #[22, 22] })
  (B:Nat) (v:Value) (xs:List Int) (hs:a.eval s=v) (hown:aU w B v xs) (sa:Option Addr) (m c:Nat) (ys:List Int) (hx:a.eval x = .slice sa m c) (hsrc:Src w sa m ys)
  (hlen:xs.length+m≤140737488355328) (hbase:B≤w.heap.size)
  (h:∀ v' w',aU w' B v' (xs ++ ys)→w.grownBy w' v.ownBlock→(v' = .slice none 0 0↔v = .slice none 0 0∧m=0)→(v'.ownBlock=v.ownBlock∨v'.ownBlock=some w.heap.size)→wpList Tryz.prog ops Q rest (a.put o.dst v') w') :
  wpList Tryz.prog ops Q (o :: rest) a w :=
 wpList_plain hgd fun _ hK=>Pn s x ho B v xs hs hown sa m c ys hx hsrc hlen hbase fun v' w' h2 h3 h4 h5=>hK _ _ (h v' w' h2 h3 h4 h5)
theorem fM {w:World} {ops:Array Oper} {o:Oper} {a:Act} {K:Act→World→Prop} {Q:Exit→Act→World→Prop} {E:Prop} (hgd:o.guard=none) (s x:Operand)
  (ho:o.op = .call { callee := .builtin .append,args := #[s,x],argTypes := #[22, 22] })
  (B:Nat) (v:Value) (xs:List Int) (hs:a.eval s=v) (hown:aU w B v xs) (sa:Option Addr) (m c:Nat) (ys:List Int) (hx:a.eval x = .slice sa m c) (hsrc:Src w sa m ys)
  (hlen:xs.length+m≤140737488355328) (hbase:B≤w.heap.size)
  (h:∀ v' w',aU w' B v' (xs ++ ys)→w.grownBy w' v.ownBlock→(v' = .slice none 0 0↔v = .slice none 0 0∧m=0)→(v'.ownBlock=v.ownBlock∨v'.ownBlock=some w.heap.size)→K (a.put o.dst v') w') :
  if Region.wanted o (yielded ops a.tmps)=true then Oper.wp Tryz.prog o a w K Q else E:=by
 have hw:Region.wanted o (yielded ops a.tmps)=true:=by simp [Region.wanted,hgd]
 rw [if_pos hw]
 exact Pn s x ho B v xs hs hown sa m c ys hx hsrc hlen hbase h
theorem aZ {w w' w0:World} {B:Nat} {v:Value} {xs:List Int} (hown:aU w B v xs) (hg:w.grownBy w' v.ownBlock) (hb:Below B w0 w) (hB:B≤w.heap.size):Below B w0 w' :=
 hb.grown hg hB (fun k hk=>(hown.lt k hk).1)
theorem kL (w:World) (x:Int):Src (w.alloc (.cells #[.int .u8 x] 5)) (some ⟨w.heap.size,0,none⟩) 1 [x]:=by
 refine ⟨rfl,fun i hi=>⟨_,rfl,?_⟩⟩
 obtain rfl:i=0:=by omega
 rw [show (⟨w.heap.size,0,none⟩:Addr).add 0=⟨w.heap.size,0,none⟩ from rfl,aF (aH w _)]
 rfl
end Go.Proofs.YthdgbgleklkaiaaGreatDoor
namespace Go.Proofs.YthdgbgleklkaiaaGreatDoor.Fp
open Go.RowKit Lm
def p:Nat:=57896044618658097711785492504343953926634992332820282019728792003956564819949
theorem p_eq:p+19=2 ^ 255:=by decide +kernel
theorem zQ:0 < p:=by decide +kernel
theorem top_eq:18446744073709551616 ^ 4=2 * p+38:=by decide +kernel
def aL (x y:Nat):Nat:=(x+y) % p
def bf (x y:Nat):Nat:=(x+p - y) % p
def aA (x y:Nat):Nat:=x * y % p
def iI (a e:Nat):Nat→Nat
 | 0=>1
 | n+1=>if e / 2 ^ (255 - n) % 2=1 then aA (aA (iI a e n) (iI a e n)) a else aA (iI a e n) (iI a e n)
def finv (a:Nat):Nat:=iI a (p - 2) 256
def eighth:Nat:=7237005577332262213973186563042994240829374041602535252466099000494570602494
def im:Nat:=19681161376707505956807079304988542015446066515923890162744021073123829784752
def jG (a:Nat):Nat×Bool :=
 let x:=iI a eighth 256
 let y:=if aA x x=a then x else aA x im
 if aA y y=a then (if y % 2=1 then bf 0 y else y,true) else (0,false)
theorem QC (x y:Nat):bf x y < p:=abG _ zQ
theorem dH (x y:Nat):aA x y < p:=abG _ zQ
theorem QE (a e:Nat):∀ n,iI a e n < p
 | 0=>by show 1 < p;decide +kernel
 | n+1=>by
  unfold iI
  split
  ·exact dH _ _
  ·exact dH _ _
def qN (x:Nat):Nat:=if x < p then x else x - p
theorem IX {x q:Nat} (h1:q≤x) (h2:x < 2 * q):x % q=x - q:=by
 rw [abZ h1,abI (by omega)]
theorem Tn (x:Nat) (hx:x < 18446744073709551616 ^ 4):qN (qN x)=x % p:=by
 rw [top_eq] at hx
 have hp:38 < p:=by decide +kernel
 unfold qN
 generalize p=q at hx hp
 by_cases h1:x < q
 ·rw [if_pos h1,if_pos h1,abI h1]
 ·rw [if_neg h1]
  by_cases h2:x - q < q
  ·rw [if_pos h2,IX (by omega) (by omega)]
  ·rw [if_neg h2,abZ (by omega),IX (by omega) (by omega)]
theorem WG (a e n:Nat):iI a e (n+1)=if e / 2 ^ (255 - n) % 2=1 then aA (aA (iI a e n) (iI a e n)) a else aA (iI a e n) (iI a e n):=rfl
end Go.Proofs.YthdgbgleklkaiaaGreatDoor.Fp
namespace Go.Proofs.YthdgbgleklkaiaaGreatDoor.Rd
open Go.RowKit Lm Fp
def tb (n:Nat) (f:Nat→Int):List Int:=(List.range n).map f
theorem dX (n:Nat) (f:Nat→Int):(tb n f).length=n:=by simp [tb]
theorem jl (n:Nat) (f:Nat→Int) (i:Nat) (h:i < n):(tb n f).getD i 0=f i:=by simp [tb,abC,h]
theorem iP (n:Nat) (f:Nat→Int) (j:Nat) (x:Int):(tb n f).set j x=tb n (fun i=>if i=j then x else f i):=by
 apply abO
 ·simp [tb]
 ·intro i h1 h2
  simp only [tb,List.getElem_set,List.getElem_map,List.getElem_range]
  by_cases e:j=i
  ·rw [if_pos e,if_pos e.symm]
  ·rw [if_neg e,if_neg (fun h=>e h.symm)]
theorem cO (n:Nat) (f g:Nat→Int) (h:∀ i,i < n→f i=g i):tb n f=tb n g:=by
 apply List.map_congr_left
 intro i hi
 exact h i (by simpa using hi)
theorem CZ (n:Nat) (xs:List Int) (h:xs.length=n):xs=tb n (fun i=>xs.getD i 0):=by
 apply abO
 ·rw [dX,h]
 ·intro i h1 h2
  simp [tb,abC,h1]
theorem zf (n:Nat) (f:Nat→Int) (P:Int→Prop) (h:∀ i,i < n→P (f i)):∀ x∈tb n f,P x:=by
 intro x hx
 simp only [tb,List.mem_map,List.mem_range] at hx
 obtain ⟨i,hi,rfl⟩:=hx
 exact h i hi
theorem sN (n:Nat):abE n 0=tb n (fun _=>0):=by
 apply abO <;> simp [tb]
def si:Nat→(Nat→Int)→Int
 | 0,_=>0
 | n+1,f=>si n f+f n
theorem iF (n:Nat) (f g:Nat→Int) (h:∀ i,i < n→f i=g i):si n f=si n g:=by
 induction n with
 | zero=>rfl
 | succ n ih=>rw [si,si,ih (fun i hi=>h i (by omega)),h n (by omega)]
theorem KE (n:Nat) (f g:Nat→Int):si n (fun i=>f i+g i)=si n f+si n g:=by
 induction n with
 | zero=>rfl
 | succ n ih=>rw [si,si,si,ih];omega
theorem si_sub (n:Nat) (f g:Nat→Int):si n (fun i=>f i - g i)=si n f - si n g:=by
 induction n with
 | zero=>rfl
 | succ n ih=>rw [si,si,si,ih];omega
theorem EN (n:Nat) (c:Int) (f:Nat→Int):si n (fun i=>c * f i)=c * si n f:=by
 induction n with
 | zero=>simp [si]
 | succ n ih=>rw [si,si,ih,Int.mul_add]
theorem zB (n m:Nat) (f:Nat→Int):si (n+m) f=si n f+si m (fun i=>f (n+i)):=by
 induction m with
 | zero=>simp [si]
 | succ m ih=>rw [Nat.add_succ,si,si,ih];omega
def vi (xs:List Int):Int:=si xs.length (fun i=>65536 ^ i * xs.getD i 0)
theorem wP (n:Nat) (f:Nat→Int):vi (tb n f)=si n (fun i=>65536 ^ i * f i):=by
 unfold vi
 rw [dX]
 exact iF _ _ _ fun i hi=>by rw [jl _ _ _ hi]
theorem VZ (n i:Nat) (f:Nat→Int) (v:Int) (hi:i < n):si n (fun k=>if k=i then v else f k)=si n f - f i+v:=by
 induction n with
 | zero=>omega
 | succ n ih =>
  rw [si,si]
  by_cases e:i=n
  ·subst e
   rw [if_pos rfl,iF i _ f (fun k hk=>by rw [if_neg (by omega)])]
   omega
  ·rw [ih (by omega),if_neg (by omega)]
   omega
theorem Vu (xs:List Int) (i:Nat) (v:Int) (hi:i < xs.length):vi (xs.set i v)=vi xs+65536 ^ i * (v - xs.getD i 0):=by
 rw [CZ xs.length xs rfl,iP,wP,wP,jl _ _ _ hi]
 have:=VZ xs.length i (fun k=>65536 ^ k * xs.getD k 0) (65536 ^ i * v) hi
 rw [iF _ (fun k=>65536 ^ k * if k=i then v else xs.getD k 0) (fun k=>if k=i then 65536 ^ i * v else 65536 ^ k * xs.getD k 0) (fun k _=>by by_cases e:k=i <;> simp [e]),this,Int.mul_sub]
 omega
def cr (xs:List Int):Nat→Int
 | 0=>0
 | j+1=>(xs.getD j 0+cr xs j) / 65536
def mid (xs:List Int) (i:Nat):List Int:=tb 16 fun j=>if j < i then (xs.getD j 0+cr xs j) % 65536 else if j=i then xs.getD j 0+cr xs j else xs.getD j 0
def carry (xs:List Int):List Int:=tb 16 fun j=>(xs.getD j 0+cr xs j) % 65536+if j=0 then 38 * cr xs 16 else 0
theorem mid_zero (xs:List Int) (h:xs.length=16):mid xs 0=xs:=by
 refine Eq.trans (cO _ _ _ fun i _=>?_) (CZ 16 xs h).symm
 rw [if_neg (by omega)]
 by_cases e:i=0
 ·subst e;rw [if_pos rfl,cr];omega
 ·rw [if_neg e]
theorem yA (xs:List Int) (i:Nat) (h:i < 16):(mid xs i).getD i 0=xs.getD i 0+cr xs i:=by
 rw [mid,jl _ _ _ h,if_neg (by omega),if_pos rfl]
theorem Xj (xs:List Int) (i j:Nat) (h:j < 16) (hi:i < j):(mid xs i).getD j 0=xs.getD j 0:=by
 rw [mid,jl _ _ _ h,if_neg (by omega),if_neg (by omega)]
theorem mid_step (xs:List Int) (i:Nat) (x:Int) (h:i < 15) (hx:xs.getD i 0+cr xs i=x) :
  ((mid xs i).set i (x % 65536)).set (i+1) (xs.getD (i+1) 0+x / 65536)=mid xs (i+1):=by
 subst hx
 rw [mid,iP,iP]
 refine cO _ _ _ fun j hj=>?_
 by_cases e:j=i+1
 ·subst e
  rw [if_pos rfl,if_neg (by omega),if_pos rfl]
  rfl
 ·rw [if_neg e]
  by_cases e2:j=i
  ·subst e2;rw [if_pos rfl,if_pos (by omega)]
  ·rw [if_neg e2]
   by_cases e3:j < i
   ·rw [if_pos e3,if_pos (by omega)]
   ·rw [if_neg e3,if_neg e2,if_neg (by omega),if_neg e]
theorem mid_end (xs:List Int) (x:Int) (hx:xs.getD 15 0+cr xs 15=x) :
  ((mid xs 15).set 15 (x % 65536)).set 0 ((xs.getD 0 0+cr xs 0) % 65536+38 * (x / 65536))=carry xs:=by
 subst hx
 rw [mid,iP,iP]
 refine cO _ _ _ fun j hj=>?_
 by_cases e:j=0
 ·subst e
  rw [if_pos rfl,if_pos rfl]
  rfl
 ·rw [if_neg e,if_neg e]
  by_cases e2:j=15
  ·subst e2;rw [if_pos rfl];omega
  ·rw [if_neg e2,if_pos (by omega)];omega
theorem ig (xs:List Int):(carry xs).length=16:=dX _ _
theorem tele (xs:List Int) (n:Nat):si n (fun j=>65536 ^ j * ((xs.getD j 0+cr xs j) % 65536))=si n (fun j=>65536 ^ j * xs.getD j 0) - 65536 ^ n * cr xs n:=by
 induction n with
 | zero=>simp [si,cr]
 | succ n ih =>
  rw [si,si,ih,cr]
  have:=Int.emod_add_mul_ediv (xs.getD n 0+cr xs n) 65536
  generalize (xs.getD n 0+cr xs n) / 65536=d at this ⊢
  generalize (xs.getD n 0+cr xs n) % 65536=r at this ⊢
  have e:(65536:Int) ^ (n+1)=65536 ^ n * 65536:=Int.pow_succ _ _
  have e2:(65536:Int) ^ n * (r+65536 * d)=65536 ^ n * (xs.getD n 0+cr xs n):=by rw [this]
  rw [e]
  grind
theorem Vx (xs:List Int) (h:xs.length=16):vi (carry xs)=vi xs - (65536 ^ 16 - 38) * cr xs 16:=by
 have e:vi xs=si 16 (fun j=>65536 ^ j * xs.getD j 0):=by unfold vi;rw [h]
 rw [e,carry,wP]
 have e1:si 16 (fun i=>65536 ^ i * ((xs.getD i 0+cr xs i) % 65536+if i=0 then 38 * cr xs 16 else 0))=si 16 (fun i=>65536 ^ i * ((xs.getD i 0+cr xs i) % 65536))+si 16 (fun i=>if i=0 then 38 * cr xs 16 else 0):=by
  rw [← KE]
  refine iF _ _ _ fun i _=>?_
  by_cases e:i=0
  ·subst e;simp
  ·simp [e]
 rw [e1,tele]
 have e2:si 16 (fun i=>if i=0 then 38 * cr xs 16 else 0)=38 * cr xs 16:=by
  rw [VZ 16 0 (fun _=>0) _ (by decide)]
  have:si 16 (fun _=>(0:Int))=0:=by decide
  rw [this];omega
 rw [e2,Int.sub_mul]
 omega
theorem Bc (xs:List Int) (M C:Int) (hM:∀ j, -M≤xs.getD j 0∧xs.getD j 0≤M) (hC:M+C≤65536 * C) (h0:0≤C):∀ j, -C≤cr xs j∧cr xs j≤C
 | 0=>by rw [cr];omega
 | j+1=>by
  have ih:=Bc xs M C hM hC h0 j
  have:=hM j
  rw [cr]
  omega
theorem bV (xs:List Int) (M:Int) (h:∀ x∈xs, -M≤x∧x≤M) (h0:0≤M) (j:Nat) : -M≤xs.getD j 0∧xs.getD j 0≤M:=by
 simp only [abC]
 cases e:xs[j]? with
 | none=>simp;omega
 | some y=>simpa using h y (abS e)
def ko (D:Int) (xs:List Int):Prop:=xs.length=16∧(-D≤xs.getD 0 0∧xs.getD 0 0≤65535+D)∧∀ j,0≤xs.getD (j+1) 0∧xs.getD (j+1) 0≤65535
theorem VI (n:Nat) (f:Nat→Int) (j:Nat) (h:n≤j):(tb n f).getD j 0=0:=by
 simp only [abC]
 rw [abY (by rw [dX];exact h)]
 rfl
theorem rG (xs:List Int) (C:Int) (h : -C≤cr xs 16∧cr xs 16≤C):ko (38 * C) (carry xs):=by
 refine ⟨ig xs,?_,fun j=>?_⟩
 ·rw [carry,jl _ _ _ (by decide),if_pos rfl]
  omega
 ·rw [carry]
  rcases abN (j+1) 16 with hj|hj
  ·rw [jl _ _ _ hj,if_neg (by omega)]
   omega
  ·rw [VI _ _ _ hj]
   omega
theorem kS (xs:List Int) (M C:Int) (hM:∀ j, -M≤xs.getD j 0∧xs.getD j 0≤M) (hC:M+C≤65536 * C) (h0:0≤C):ko (38 * C) (carry xs):=rG xs C (Bc xs M C hM hC h0 16)
theorem cr_near (xs:List Int) (D:Int) (h:ko D xs) (h0:0≤D) (h1:D≤1099511627776):∀ j,3≤j → -1≤cr xs j∧cr xs j≤1:=by
 obtain ⟨_,h2,h3⟩:=h
 have c1:cr xs 1=(xs.getD 0 0+0) / 65536:=rfl
 have c2:cr xs 2=(xs.getD 1 0+cr xs 1) / 65536:=rfl
 have q1:=h3 0
 intro j hj
 induction j with
 | zero=>omega
 | succ j ih =>
  have qj:=h3 (j - 1)
  rcases abN j 3 with hlt|hge
  ·obtain rfl:j=2:=by omega
   rw [show (2 - 1+1:Nat)=2 from rfl] at qj
   rw [show (0+1:Nat)=1 from rfl] at q1
   rw [cr]
   omega
  ·have:=ih hge
   rw [show j - 1+1=j by omega] at qj
   rw [cr]
   omega
theorem qc (xs:List Int) (D:Int) (h:ko D xs) (h0:0≤D) (h1:D≤1099511627776):ko 38 (carry xs):=rG xs 1 (cr_near xs D h h0 h1 16 (by decide))
theorem mR {D:Int} {xs:List Int} (h:ko D xs) (h0:0≤D):∀ x∈xs, -D≤x∧x≤65535+D:=by
 intro x hx
 obtain ⟨i,hi,rfl⟩:=List.getElem_of_mem hx
 have e:xs[i]=xs.getD i 0:=by simp [abC,hi]
 rw [e]
 cases i with
 | zero=>exact h.2.1
 | succ i=>have:=h.2.2 i;omega
theorem qd (xs:List Int) (h:ko 38 xs):ko 0 (carry xs):=by
 have key:∀ j,cr xs (j+1)=0∨(cr xs (j+1) = -1∧xs.getD 0 0 < 0)∨(cr xs (j+1)=1∧65536≤xs.getD 0 0):=by
  intro j
  induction j with
  | zero =>
   have c1:cr xs (0+1)=(xs.getD 0 0+0) / 65536:=rfl
   have:=h.2.1
   rw [c1]
   omega
  | succ j ih =>
   have c1:cr xs (j+1+1)=(xs.getD (j+1) 0+cr xs (j+1)) / 65536:=rfl
   have:=h.2.2 j
   rw [c1]
   omega
 have k16:=key 15
 have hf:=h.2.1
 refine ⟨ig xs,?_,fun j=>?_⟩
 ·rw [carry,jl _ _ _ (by decide),if_pos rfl,cr]
  rw [show (15+1:Nat)=16 from rfl] at k16
  omega
 ·have:=(rG xs 1 (by rw [show (15+1:Nat)=16 from rfl] at k16;omega)).2.2 j
  exact this
theorem SK {D E:Int} {xs:List Int} (h:ko D xs) (hd:D≤E):ko E xs:=⟨h.1,⟨by have:=h.2.1;omega,by have:=h.2.1;omega⟩,h.2.2⟩
def El (xs:List Int) (a:Nat):Prop:=xs.length=16∧(∀ x∈xs, -1048576≤x∧x≤1048576)∧vi xs % (p:Int)=(a:Int)
theorem pz:(0:Int) < (p:Int):=by decide +kernel
theorem El.lt {xs:List Int} {a:Nat} (h:El xs a):a < p:=by
 have h1:=Int.emod_lt_of_pos (vi xs) pz
 rw [h.2.2] at h1
 omega
theorem top_p:(65536:Int) ^ 16 - 38=(p:Int) * 2:=by decide +kernel
theorem ug (x k:Int):(x - (p:Int) * k) % (p:Int)=x % (p:Int):=by
 rw [show x - (p:Int) * k=x+(p:Int) * (-k) by grind,acC]
theorem ji (xs:List Int) (h:xs.length=16):vi (carry xs) % (p:Int)=vi xs % (p:Int):=by
 rw [Vx xs h,top_p,Int.mul_assoc,ug]
theorem Fz {D:Int} {xs:List Int} (h:ko D xs) (h0:0≤D) (h1:D≤900000) (a:Nat) (ha:vi xs % (p:Int)=(a:Int)):El xs a :=
 ⟨h.1,fun x hx=>by have:=mR h h0 x hx;omega,ha⟩
theorem lX (n:Nat) (xs:List Int) (h:xs.length=n):vi xs=si n (fun i=>65536 ^ i * xs.getD i 0):=by unfold vi;rw [h]
def EJ (xs ys:List Int):List Int:=tb 16 fun i=>xs.getD i 0+ys.getD i 0
def Bb (xs ys:List Int):List Int:=tb 16 fun i=>xs.getD i 0 - ys.getD i 0
theorem vi_sumr (xs ys:List Int) (hx:xs.length=16) (hy:ys.length=16):vi (EJ xs ys)=vi xs+vi ys:=by
 rw [EJ,wP,lX 16 xs hx,lX 16 ys hy,← KE]
 exact iF _ _ _ fun i _=>Int.mul_add _ _ _
theorem Pp (xs ys:List Int) (hx:xs.length=16) (hy:ys.length=16):vi (Bb xs ys)=vi xs - vi ys:=by
 rw [Bb,wP,lX 16 xs hx,lX 16 ys hy,← si_sub]
 exact iF _ _ _ fun i _=>Int.mul_sub _ _ _
theorem zh (n:Nat) (f:Nat→Int) (M:Int) (h:∀ i,i < n → -M≤f i∧f i≤M) (h0:0≤M) (j:Nat) : -M≤(tb n f).getD j 0∧(tb n f).getD j 0≤M :=
 bV _ M (zf n f (fun x => -M≤x∧x≤M) h) h0 j
theorem FC (z:Int) (a:Nat) (h:z % (p:Int)=((a:Nat):Int) % (p:Int)):z % (p:Int)=((a % p:Nat):Int):=by rw [h];exact (Int.natCast_emod a p).symm
theorem El.add {xs ys:List Int} {a b:Nat} (hx:El xs a) (hy:El ys b):El (carry (EJ xs ys)) (aL a b):=by
 refine Fz (D:=38 * 33) (kS _ 2097152 33 (zh _ _ _ (fun i _=>?_) (by decide)) (by decide) (by decide)) (by decide) (by decide) _ ?_
 ·have h1:=bV xs 1048576 hx.2.1 (by decide) i
  have h2:=bV ys 1048576 hy.2.1 (by decide) i
  omega
 ·show vi (carry (EJ xs ys)) % (p:Int)=_
  rw [ji _ (show (EJ xs ys).length=16 from dX _ _),vi_sumr _ _ hx.1 hy.1]
  refine FC _ _ ?_
  rw [Int.add_emod,hx.2.2,hy.2.2,Int.natCast_add]
theorem El.sub {xs ys:List Int} {a b:Nat} (hx:El xs a) (hy:El ys b):El (carry (Bb xs ys)) (bf a b):=by
 refine Fz (D:=38 * 33) (kS _ 2097152 33 (zh _ _ _ (fun i _=>?_) (by decide)) (by decide) (by decide)) (by decide) (by decide) _ ?_
 ·have h1:=bV xs 1048576 hx.2.1 (by decide) i
  have h2:=bV ys 1048576 hy.2.1 (by decide) i
  omega
 ·show vi (carry (Bb xs ys)) % (p:Int)=_
  rw [ji _ (show (Bb xs ys).length=16 from dX _ _),Pp _ _ hx.1 hy.1]
  refine FC _ _ ?_
  have hb:=hy.lt
  rw [Int.sub_emod,hx.2.2,hy.2.2,show ((a+p - b:Nat):Int)=((a:Int) - (b:Int))+(p:Int) * 1 by omega,acC]
def foldr (ts:List Int):List Int:=tb 16 fun i=>if i < 15 then ts.getD i 0+38 * ts.getD (i+16) 0 else ts.getD i 0
theorem TM (ts:List Int) (h:ts.length=31):vi (foldr ts) % (p:Int)=vi ts % (p:Int):=by
 have e1:vi (foldr ts)=si 16 (fun i=>65536 ^ i * ts.getD i 0)+38 * si 15 (fun i=>65536 ^ i * ts.getD (i+16) 0):=by
  have a1:si 16 (fun i=>65536 ^ i * ts.getD i 0)=si 15 (fun i=>65536 ^ i * ts.getD i 0)+65536 ^ 15 * ts.getD 15 0:=rfl
  have a2:si 16 (fun i=>65536 ^ i * (if i < 15 then ts.getD i 0+38 * ts.getD (i+16) 0 else ts.getD i 0))=si 15 (fun i=>65536 ^ i * (if i < 15 then ts.getD i 0+38 * ts.getD (i+16) 0 else ts.getD i 0))+65536 ^ 15 * ts.getD 15 0:=rfl
  rw [foldr,wP,a1,a2,← EN,iF 15 (fun i=>65536 ^ i * (if i < 15 then ts.getD i 0+38 * ts.getD (i+16) 0 else ts.getD i 0)) (fun i=>65536 ^ i * ts.getD i 0+38 * (65536 ^ i * ts.getD (i+16) 0)) (fun i hi=>by rw [if_pos hi];grind),KE]
  omega
 have e2:vi ts=si 16 (fun i=>65536 ^ i * ts.getD i 0)+65536 ^ 16 * si 15 (fun i=>65536 ^ i * ts.getD (i+16) 0):=by
  rw [lX 31 ts h,show 31=16+15 from rfl,zB,← EN]
  congr 1
  refine iF _ _ _ fun i _=>?_
  rw [Int.pow_add,Nat.add_comm 16 i]
  grind
 generalize si 15 (fun i=>65536 ^ i * ts.getD (i+16) 0)=H at e1 e2
 have e3:=ug (vi ts) (2 * H)
 rw [show vi ts - (p:Int) * (2 * H)=vi (foldr ts) by rw [← Int.mul_assoc,← top_p,e1,e2];grind] at e3
 exact e3
theorem El.mul {xs ys ts:List Int} {a b:Nat} (hx:El xs a) (hy:El ys b) (hl:ts.length=31) (hb:∀ j, -17592186044416≤ts.getD j 0∧ts.getD j 0≤17592186044416) (hv:vi ts=vi xs * vi ys) :
  El (carry (carry (foldr ts))) (aA a b):=by
 have n1:ko (38 * 17180200000) (carry (foldr ts)):=kS _ 1125899906842624 17180200000 (zh _ _ _ (fun i _=>by
  have h1:=hb i
  have h2:=hb (i+16)
  split <;> omega) (by decide)) (by decide) (by decide)
 refine Fz (D:=38) (qc _ _ n1 (by decide) (by decide)) (by decide) (by decide) _ ?_
 rw [ji _ n1.1,ji _ (show (foldr ts).length=16 from dX _ _),TM _ hl,hv]
 refine FC _ _ ?_
 rw [Int.mul_emod,hx.2.2,hy.2.2,Int.natCast_mul]
theorem Sz (xs ys ts:List Int) (i k:Nat) (hi:i < 16) (hk:k < 16) (ht:ts.length=31) (V:Int) (hV:vi ts=V+65536 ^ i * xs.getD i 0 * si k (fun j=>65536 ^ j * ys.getD j 0)) :
  vi (ts.set (i+k) (ts.getD (i+k) 0+xs.getD i 0 * ys.getD k 0))=V+65536 ^ i * xs.getD i 0 * si (k+1) (fun j=>65536 ^ j * ys.getD j 0):=by
 rw [Vu _ _ _ (by omega),hV,si,Int.pow_add]
 grind
theorem prod_bound (xs ys ts:List Int) (i k:Nat) (hx:∀ j, -1048576≤xs.getD j 0∧xs.getD j 0≤1048576) (hy:∀ j, -1048576≤ys.getD j 0∧ys.getD j 0≤1048576) (hi:i < 16) (hk:k < 16) (ht:ts.length=31)
  (hb:∀ n, -(1099511627776 * ((i:Int)+if i≤n∧n < i+k then 1 else 0))≤ts.getD n 0∧ts.getD n 0≤1099511627776 * ((i:Int)+if i≤n∧n < i+k then 1 else 0)) :
  (∀ n, -(1099511627776 * ((i:Int)+if i≤n∧n < i+(k+1) then 1 else 0))≤(ts.set (i+k) (ts.getD (i+k) 0+xs.getD i 0 * ys.getD k 0)).getD n 0∧(ts.set (i+k) (ts.getD (i+k) 0+xs.getD i 0 * ys.getD k 0)).getD n 0≤1099511627776 * ((i:Int)+if i≤n∧n < i+(k+1) then 1 else 0)):=by
 intro n
 have hp : -1099511627776≤xs.getD i 0 * ys.getD k 0∧xs.getD i 0 * ys.getD k 0≤1099511627776:=by
  have h1:=hx i
  have h2:=hy k
  generalize xs.getD i 0=x at h1
  generalize ys.getD k 0=y at h2
  have e:=Int.natAbs_mul x y
  have a1:x.natAbs≤1048576:=by omega
  have a2:y.natAbs≤1048576:=by omega
  have:=Nat.mul_le_mul a1 a2
  omega
 by_cases e:n=i+k
 ·subst e
  have h:=hb (i+k)
  have eg:(ts.set (i+k) (ts.getD (i+k) 0+xs.getD i 0 * ys.getD k 0)).getD (i+k) 0=ts.getD (i+k) 0+xs.getD i 0 * ys.getD k 0:=by
   simp [abC,show i+k < ts.length by omega]
  rw [eg]
  rw [if_neg (by omega)] at h
  rw [if_pos (by omega)]
  omega
 ·have h:=hb n
  have eg:(ts.set (i+k) (ts.getD (i+k) 0+xs.getD i 0 * ys.getD k 0)).getD n 0=ts.getD n 0:=by
   simp only [abC]
   rw [List.getElem?_set_ne (fun e'=>e e'.symm)]
  rw [eg]
  by_cases e2:i≤n∧n < i+k
  ·rw [if_pos e2] at h
   rw [if_pos (by omega)]
   exact h
  ·rw [if_neg e2] at h
   rw [if_neg (by omega)]
   exact h
end Go.Proofs.YthdgbgleklkaiaaGreatDoor.Rd
