/- Bytes: One step of a region that draws its order: The hash of shb in plain words: shb: shb.schedule: shb.turn: The hash of shb, block by block. Condition: as each theorem says. -/
import Derived.BigRegion
import Derived.Deep.AppendLies
import Derived.Deep.DeepCutAuto
import Derived.Deep.LoopGhost
import Derived.Deep.OwnRows
import Derived.Deep.RegionHeld3
import Derived.Laws.BytesArg
import Derived.Laws.CopyOwn
import Derived.Laws.OwnMore
import Derived.Maps.AppendAt
import Derived.OwnWalk
import Derived.RegionTactic
import Derived.ScopeJumps
import Derived.StillTailTactics
import Derived.Test.YthdgbgleklkaiaaDoorChecked
import Derived.WalkSpells
import Derived.Test.YthdgbgleklkaiaaDoorQb01
open List renaming getD→acD,replicate→acE,range→acF,ext_getElem→acG,foldl_append→acH,eq_nil_of_length_eq_zero→acI,length_map→acJ,length_set→acK,getElem?_take→acM,getElem?_map→acN,append_nil→acQ,drop_eq_nil_of_le→acR,getElem_map→acS,getElem_set→acT,range_succ→acU,take_succ_eq_append_getElem→acV,take_of_length_le→acW,length_take→acX
open Nat renaming eq_zero_or_pos→acP
set_option linter.unusedSimpArgs false
set_option linter.unusedVariables false
set_option maxRecDepth 100000
set_option maxHeartbeats 16000000
namespace Go.Proofs.YthdgbgleklkaiaaDoor
open Go.RowKit
def jS (b:List Int) (sp:List Value):Array Value:=(b.map (Value.int .u8) ++ sp).toArray
structure Src (w:World) (sa:Option Addr) (n:Nat) (xs:List Int):Prop where
 len:xs.length=n
 cell:∀ i,i < n→∃ a,sa=some a∧w.cell? (a.add i)=some (.int .u8 (xs.getD i 0))
theorem ug (b:List Int) (sp:List Value) (i:Nat) (h:i < b.length):(jS b sp)[i]? = some (.int .u8 (b.getD i 0)):=by
 unfold jS
 rw [List.getElem?_toArray,List.getElem?_append_left (by simpa using h)]
 simp [acD,h]
theorem VG (b:List Int) (sp:List Value) (i:Nat) (h:i < b.length) (x:Int):(jS b sp).setIfInBounds i (.int .u8 x)=jS (b.set i x) sp:=by
 unfold jS
 rw [List.setIfInBounds_toArray,List.set_append_left _ _ (by simpa using h),List.map_set]
theorem Kept.l9 {T:Nat→Prop} {a b:World} (h:Kept T a b) {x:Addr} {v:Value} (hx:a.cell? x=some v) (ht:¬ T x.block):b.cell? x=some v :=
 (World.cell?_of_block (h.block x.block (World.block_lt_of_cell? a x hx) ht)).trans hx
theorem block_add (a:Addr) (n:Nat):(a.add n).block=a.block:=by unfold Addr.add;split <;> rfl
theorem nM:(Tryd.prog.info? 5).map (·.size)=some 1:=by kernel_rfl
def jY (w:World) (B:Nat) (v:Value) (xs:List Int):Prop :=
 ∃ g cap sp,v = .slice (some ⟨g,0,none⟩) xs.length cap∧B≤g∧w.heap[g]? = some (.cells (jS xs sp) 5 (0,0))∧cap=xs.length+sp.length∧cap≤maxLen
theorem jY.KF {w:World} {B:Nat} {v:Value} {xs:List Int} (h:w.ownsRow B 5 1 v xs.length (xs.map (Value.int .u8))) (hv:v ≠ .slice none 0 0):jY w B v xs:=by
 obtain ⟨h1,h2⟩:=h
 rcases h2 with ⟨rfl,_⟩|⟨g,cap,cur,rfl,hB,hg,hn,hm,hs,ht⟩
 ·exact absurd rfl hv
 ·refine ⟨g,cap,cur.toList.drop xs.length,rfl,hB,?_,?_,hm⟩
  ·rw [hg]
   congr 2
   unfold jS
   rw [← ht]
   simp
  ·simp [hs];omega
theorem yH:(Tryd.prog.info? 5).map (fun i=>(i.zero,i.size,i.bytes))=some (some (.int .u8 0),1,1):=by kernel_rfl
theorem jY.str {w:World} {B:Nat} {v:Value} {xs:List Int} (h:jY w B v xs):(convert 24 9 v).run Tryd.prog w = .ok (.string (strOfNums xs)) w:=by
 obtain ⟨g,cap,sp,rfl,_,hg,_,_⟩:=h
 refine run_convert_bytes_arg w 24 5 Tryd.underlying24 Tryd.underlying5 g 0 _ _ xs rfl (fun i hi=>?_) 9 Tryd.underlying9
 rw [Nat.zero_add,aF hg,ug _ _ _ hi]
theorem jY.kept {T:Nat→Prop} {w w':World} {B:Nat} {v:Value} {xs:List Int} (h:jY w B v xs) (k:Kept T w w') (hT:∀ g,B≤g→g < w.heap.size→¬ T g):jY w' B v xs:=by
 obtain ⟨g,cap,sp,hv,hB,hg,h1,h2⟩:=h
 exact ⟨g,cap,sp,hv,hB,k.blk hg (hT g hB (aO hg)),h1,h2⟩
theorem jY.mono {w:World} {B B':Nat} {v:Value} {xs:List Int} (h:jY w B v xs) (hB:B'≤B):jY w B' v xs:=by
 obtain ⟨g,cap,sp,hv,h0,hg,h1,h2⟩:=h
 exact ⟨g,cap,sp,hv,by omega,hg,h1,h2⟩
theorem jY.drewN {w:World} {B:Nat} {v:Value} {xs:List Int} (h:jY w B v xs) (n:Nat):jY (w.drewN n) B v xs:=h
def zeros (n:Nat):List Int:=acE n 0
theorem made8 (n:Nat):madeCells #[Value.int .u8 0] n=jS (zeros n) []:=by
 unfold jS zeros
 apply Array.ext
 ·simp [size_madeCells]
 ·intro i h1 h2
  simp [madeCells,Nat.mod_one]
theorem mk8 (n:Nat) (hn:n≤1099511627776) (w:World) :
  (Instr.makeSlice 24 (.int .i64 (n:Int)) (.int .i64 (n:Int))).run Tryd.prog w = .ok (.slice (some ⟨w.heap.size,0,none⟩) n n) (w.alloc (.cells (jS (zeros n) []) 5)):=by
 rw [← made8]
 exact run_make_row' 24 5 (.int .u8 0) 1 Tryd.underlying24 yH rfl .i64 .i64 n (by omega) (by omega) w
theorem O3 {w:World} {b:Nat} {xs:List Int} {sp:List Value} (h:w.heap[b]? = some (.cells (jS xs sp) 5 (0,0))):Src w (some ⟨b,0,none⟩) xs.length xs:=by
 refine ⟨rfl,fun i hi=>⟨_,rfl,?_⟩⟩
 have e:(⟨b,0,none⟩:Addr).add i=⟨b,i,none⟩:=by unfold Addr.add;split <;> simp_all
 rw [e,aF h,ug _ _ _ hi]
def aU (w:World) (B:Nat) (v:Value) (xs:List Int):Prop:=w.ownsRow B 5 1 v xs.length (xs.map (Value.int .u8))
theorem aU.nil (w:World) (B:Nat):aU w B (.slice none 0 0) []:=⟨by simp, .inl ⟨rfl,rfl⟩⟩
theorem aU.PS {w:World} {B:Nat} {v:Value} {xs:List Int} (h:jY w B v xs):aU w B v xs:=by
 obtain ⟨g,cap,sp,rfl,hB,hg,hc,hm⟩:=h
 refine ⟨by simp, .inr ⟨g,cap,_,rfl,hB,hg,by omega,hm,by simp [jS];omega,?_⟩⟩
 simp [jS]
theorem nL {w:World} {g:Nat} {cur:Array Value} {fr:Nat×Nat} {t:TypeId} {xs:List Int} {m:Nat} (hg:w.heap[g]? = some (.cells cur t fr)) (ht:cur.toList.take (xs.length * 1)=xs.map (Value.int .u8)) (hm:xs.length=m) :
  Src w (some ⟨g,0,none⟩) m xs:=by
 subst hm
 refine ⟨rfl,fun i hi=>⟨_,rfl,?_⟩⟩
 have e:(⟨g,0,none⟩:Addr).add i=⟨g,i,none⟩:=by unfold Addr.add;split <;> simp_all
 have hl:=congrArg (fun l=>l[i]?) ht
 simp only [Nat.mul_one,acM,hi,if_true,acN] at hl
 have hx:xs[i]? = some (xs.getD i 0):=by simp [acD,hi]
 rw [e,World.cell?]
 simp only [hg]
 rw [hx] at hl
 simpa using hl
theorem aU.form {w:World} {B:Nat} {v:Value} {xs:List Int} (h:aU w B v xs) :
  ∃ sa c,v = .slice sa xs.length c∧xs.length≤c∧c≤maxLen∧Src w sa xs.length xs∧((sa=none∧xs=[]∧c=0)∨∃ g,sa=some ⟨g,0,none⟩∧B≤g∧g < w.heap.size):=by
 obtain ⟨h1,h2⟩:=h
 rcases h2 with ⟨rfl,h0⟩|⟨g,cap,cur,rfl,hB,hg,hn,hm,hs,ht⟩
 ·have:xs=[]:=acI h0
  subst this
  exact ⟨none,0,rfl,by simp,by simp [maxLen],⟨rfl,fun i hi=>absurd hi (by simp)⟩, .inl ⟨rfl,rfl,rfl⟩⟩
 ·exact ⟨_,cap,rfl,hn,hm,nL hg ht rfl, .inr ⟨g,rfl,hB,aO hg⟩⟩
theorem aU.kept {T:Nat→Prop} {w w':World} {B:Nat} {v:Value} {xs:List Int} (h:aU w B v xs) (k:Kept T w w') (hT:∀ g,v.ownBlock=some g→¬ T g):aU w' B v xs:=by
 obtain ⟨h1,h2⟩:=h
 refine ⟨h1,?_⟩
 rcases h2 with h0|⟨g,cap,cur,rfl,hB,hg,hr⟩
 ·exact .inl h0
 ·exact .inr ⟨g,cap,cur,rfl,hB,k.blk hg (hT g rfl),hr⟩
theorem aU.below {w w':World} {B:Nat} {v:Value} {xs:List Int} (h:aU w B v xs) (k:Below w.heap.size w w'):aU w' B v xs :=
 h.kept (T:=fun _=>False) (Kept.of_below k) (fun _ _=>id)
theorem aU.drewN {w:World} {B:Nat} {v:Value} {xs:List Int} (h:aU w B v xs) (n:Nat):aU (w.drewN n) B v xs:=h
theorem aU.drew {w:World} {B:Nat} {v:Value} {xs:List Int} (h:aU w B v xs):aU w.drew B v xs:=h
theorem aU.alloc {w:World} {B:Nat} {v:Value} {xs:List Int} (h:aU w B v xs) (o:Obj):aU (w.alloc o) B v xs:=h.below ((Below.refl _ w).alloc (Nat.le_refl _) o)
theorem aU.mono {w:World} {B B':Nat} {v:Value} {xs:List Int} (h:aU w B v xs) (hB:B'≤B):aU w B' v xs:=by
 obtain ⟨h1,h2⟩:=h
 refine ⟨h1,?_⟩
 rcases h2 with h0|⟨g,cap,cur,rfl,hb,hr⟩
 ·exact .inl h0
 ·exact .inr ⟨g,cap,cur,rfl,by omega,hr⟩
theorem aU.lt {w:World} {B:Nat} {v:Value} {xs:List Int} (h:aU w B v xs):∀ k,v.ownBlock=some k→B≤k∧k < w.heap.size:=World.ownsRow.lt h
theorem aU.len {w:World} {B:Nat} {v:Value} {xs:List Int} (h:aU w B v xs):xs.length≤maxLen:=by
 obtain ⟨_,c,_,h1,h2,_⟩:=h.form
 omega
theorem src_str {w:World} {sa:Option Addr} {n c:Nat} {xs:List Int} (h:Src w sa n xs) (hp:∀ a,sa=some a→a.spot=none):(convert 24 9 (.slice sa n c)).run Tryd.prog w = .ok (.string (strOfNums xs)) w:=by
 cases sa with
 | none =>
  have h0:n=0:=by
   rcases acP n with h0|h0
   ·exact h0
   ·obtain ⟨_,he,_⟩:=h.cell 0 h0
    cases he
  have hx:xs=[]:=acI (h.len.trans h0)
  subst hx
  exact run_convert_bytes_nil w 24 5 Tryd.underlying24 Tryd.underlying5 n c 9 Tryd.underlying9
 | some a =>
  obtain ⟨b,off,el⟩:=a
  have:el=none:=hp _ rfl
  subst this
  refine run_convert_bytes_arg w 24 5 Tryd.underlying24 Tryd.underlying5 b off n c xs h.len (fun i hi=>?_) 9 Tryd.underlying9
  obtain ⟨a',he,hc⟩:=h.cell i hi
  cases he
  have e:(⟨b,off,none⟩:Addr).add i=⟨b,off+i,none⟩:=by unfold Addr.add;split <;> simp_all
  rwa [e] at hc
theorem aU.str {w:World} {B:Nat} {v:Value} {xs:List Int} (h:aU w B v xs):(convert 24 9 v).run Tryd.prog w = .ok (.string (strOfNums xs)) w:=by
 obtain ⟨sa,c,rfl,_,_,hs,hf⟩:=h.form
 refine src_str hs (fun a ha=>?_)
 rcases hf with ⟨rfl,_⟩|⟨g,rfl,_⟩
 ·cases ha
 ·cases ha;rfl
theorem Src.kept {T:Nat→Prop} {w w':World} {sa:Option Addr} {n:Nat} {xs:List Int} (h:Src w sa n xs) (k:Kept T w w') (hT:∀ a,sa=some a→n=0∨¬ T a.block):Src w' sa n xs:=by
 refine ⟨h.len,fun i hi=>?_⟩
 obtain ⟨a,he,hc⟩:=h.cell i hi
 refine ⟨a,he,k.l9 hc ?_⟩
 rw [block_add]
 rcases hT a he with h0|h0
 ·omega
 ·exact h0
theorem Src.below {w w':World} {sa:Option Addr} {n:Nat} {xs:List Int} (h:Src w sa n xs) (k:Below w.heap.size w w'):Src w' sa n xs :=
 h.kept (T:=fun _=>False) (Kept.of_below k) (fun _ _ => .inr id)
theorem jk {w:World} {sa:Option Addr} {n:Nat} {xs:List Int} (h:Src w sa n xs) (a:Addr) (ha:sa=some a):∀ j u,(xs.map (Value.int .u8))[j]? = some u→w.cell? (a.add j)=some u:=by
 intro j u hj
 rw [acN] at hj
 have hjl:j < xs.length:=by
  rcases Nat.lt_or_ge j xs.length with q|q
  ·exact q
  ·rw [List.getElem?_eq_none q] at hj;cases hj
 obtain ⟨a',he,hc⟩:=h.cell j (by rw [← h.len];exact hjl)
 rw [ha] at he
 cases he
 rw [hc]
 simp [hjl] at hj
 simp [acD,hjl,hj]
theorem mQ (k:IntKind) (xs:List Int):∀ u∈xs.map (Value.int k),u.oneCell'=true:=by
 intro u hu
 obtain ⟨x,_,rfl⟩:=List.mem_map.1 hu
 rfl
theorem VE {w:World} {B:Nat} {v:Value} {xs ys:List Int} {sa:Option Addr} {m c:Nat} {ty:TypeId} (hown:aU w B v xs) (hsrc:Src w sa m ys) (hlen:xs.length+m≤140737488355328) (hbase:B≤w.heap.size) :
  ∃ v' w',(Builtin.append_ #[24, 24] ty #[v, .slice sa m c]).run Tryd.prog w = .ok v' w'∧aU w' B v' (xs ++ ys)∧w.grownBy w' v.ownBlock ∧
   (v' = .slice none 0 0↔v = .slice none 0 0∧m=0)∧(v'.ownBlock=v.ownBlock∨v'.ownBlock=some w.heap.size):=by
 obtain ⟨i0,hi,hz0,hz1,hz2⟩:=info_parts yH
 cases sa with
 | none =>
  have h0:m=0:=by
   rcases acP m with h0|h0
   ·exact h0
   ·obtain ⟨_,he,_⟩:=hsrc.cell 0 h0
    cases he
  have hy:ys=[]:=acI (hsrc.len.trans h0)
  subst hy
  subst h0
  refine ⟨v,w,?_,by rw [acQ];exact hown,⟨rfl,rfl,rfl,Nat.le_refl _,fun _ _ _=>rfl⟩,by simp, .inl rfl⟩
  rcases hown.2 with ⟨rfl,h0⟩|⟨g,cap,cur,rfl,_,_,hnc,_⟩
  ·simp [Builtin.append_,run_underlying Tryd.underlying24, sizeOf,typeInfo,hi,Builtin.lenOf,Builtin.firstCells]
  ·simp [Builtin.append_,run_underlying Tryd.underlying24, sizeOf,typeInfo,hi,Builtin.lenOf,Builtin.firstCells,hnc,storeCells]
 | some a =>
  obtain ⟨v',w',h1,h2,h3,h4,h5⟩:=run_append_own_at (P := Tryd.prog) w B 24 ty 5 i0 (.int .u8 0) 1 1 Tryd.underlying24 hi hz0 hz1 hz2 rfl (by decide) v xs.length (xs.map (Value.int .u8)) hown a m c (ys.map (Value.int .u8))
   (by simp [hsrc.len]) (jk hsrc a rfl) (mQ _ _) (by unfold maxLen;omega) (by omega) hbase
  refine ⟨v',w',h1,?_,h3,h4,h5⟩
  unfold aU
  rw [List.length_append,hsrc.len,List.map_append]
  exact h2
theorem OX {w:World} {o:Oper} {a:Act} {K:Act→World→Prop} {Q:Exit→Act→World→Prop} (s x:Operand)
  (ho:o.op = .call { callee := .builtin .append,args := #[s,x],argTypes := #[24, 24] })
  (B:Nat) (v:Value) (xs:List Int) (hs:a.eval s=v) (hown:aU w B v xs) (sa:Option Addr) (m c:Nat) (ys:List Int) (hx:a.eval x = .slice sa m c) (hsrc:Src w sa m ys)
  (hlen:xs.length+m≤140737488355328) (hbase:B≤w.heap.size)
  (h:∀ v' w',aU w' B v' (xs ++ ys)→w.grownBy w' v.ownBlock→(v' = .slice none 0 0↔v = .slice none 0 0∧m=0)→(v'.ownBlock=v.ownBlock∨v'.ownBlock=some w.heap.size)→K (a.put o.dst v') w'):o.wp Tryd.prog a w K Q:=by
 obtain ⟨v',w',hr,h2,h3,h4,h5⟩:=VE (ty:=o.type) (c:=c) hown hsrc hlen hbase
 unfold Oper.wp execOp
 simp only [ho,resolve,invoke,builtin,Sem.run_bind,Sem.run_pure,Result.andThen_ok,List.map_toArray,List.map_cons,List.map_nil,hs,hx,hr]
 exact h v' w' h2 h3 h4 h5
theorem aR {w:World} {ops:Array Oper} {rest:List Oper} {o:Oper} {a:Act} {Q:Exit→Act→World→Prop} (hgd:o.guard=none) (s x:Operand)
  (ho:o.op = .call { callee := .builtin .append,args := #[s,x],argTypes := #[24, 24] })
  (B:Nat) (v:Value) (xs:List Int) (hs:a.eval s=v) (hown:aU w B v xs) (sa:Option Addr) (m c:Nat) (ys:List Int) (hx:a.eval x = .slice sa m c) (hsrc:Src w sa m ys)
  (hlen:xs.length+m≤140737488355328) (hbase:B≤w.heap.size)
  (h:∀ v' w',aU w' B v' (xs ++ ys)→w.grownBy w' v.ownBlock→(v' = .slice none 0 0↔v = .slice none 0 0∧m=0)→(v'.ownBlock=v.ownBlock∨v'.ownBlock=some w.heap.size)→wpList Tryd.prog ops Q rest (a.put o.dst v') w') :
  wpList Tryd.prog ops Q (o :: rest) a w :=
 wpList_plain hgd fun _ hK=>OX s x ho B v xs hs hown sa m c ys hx hsrc hlen hbase fun v' w' h2 h3 h4 h5=>hK _ _ (h v' w' h2 h3 h4 h5)
theorem d9 {w:World} {ops:Array Oper} {o:Oper} {a:Act} {K:Act→World→Prop} {Q:Exit→Act→World→Prop} {E:Prop} (hgd:o.guard=none) (s x:Operand)
  (ho:o.op = .call { callee := .builtin .append,args := #[s,x],argTypes := #[24, 24] })
  (B:Nat) (v:Value) (xs:List Int) (hs:a.eval s=v) (hown:aU w B v xs) (sa:Option Addr) (m c:Nat) (ys:List Int) (hx:a.eval x = .slice sa m c) (hsrc:Src w sa m ys)
  (hlen:xs.length+m≤140737488355328) (hbase:B≤w.heap.size)
  (h:∀ v' w',aU w' B v' (xs ++ ys)→w.grownBy w' v.ownBlock→(v' = .slice none 0 0↔v = .slice none 0 0∧m=0)→(v'.ownBlock=v.ownBlock∨v'.ownBlock=some w.heap.size)→K (a.put o.dst v') w') :
  if Region.wanted o (yielded ops a.tmps)=true then Oper.wp Tryd.prog o a w K Q else E:=by
 have hw:Region.wanted o (yielded ops a.tmps)=true:=by simp [Region.wanted,hgd]
 rw [if_pos hw]
 exact OX s x ho B v xs hs hown sa m c ys hx hsrc hlen hbase h
theorem aQ {w w' w0:World} {B:Nat} {v:Value} {xs:List Int} (hown:aU w B v xs) (hg:w.grownBy w' v.ownBlock) (hb:Below B w0 w) (hB:B≤w.heap.size):Below B w0 w' :=
 hb.grown hg hB (fun k hk=>(hown.lt k hk).1)
theorem jK (w:World) (x:Int):Src (w.alloc (.cells #[.int .u8 x] 5)) (some ⟨w.heap.size,0,none⟩) 1 [x]:=by
 refine ⟨rfl,fun i hi=>⟨_,rfl,?_⟩⟩
 obtain rfl:i=0:=by omega
 rw [show (⟨w.heap.size,0,none⟩:Addr).add 0=⟨w.heap.size,0,none⟩ from rfl,aF (aG w _)]
 rfl
end Go.Proofs.YthdgbgleklkaiaaDoor
namespace Go.Proofs.YthdgbgleklkaiaaDoor
open Go.RowKit
section
variable {P:Program}
theorem bg {ops:Array Oper} {o:Oper} {a:Act} {w:World} {K:Act→World→Prop} {Q:Exit→Act→World→Prop} {E:Prop} (hgd:o.guard=none) (t:TypeId) (ho:o.op = .alloc t)
  (z:Array Value) (hz:(zeroValue t).run P w = .ok (.agg z) w) (h:K (a.put o.dst (.pointer (some ⟨w.heap.size,0,none⟩))) (w.alloc (.cells z t))) :
  if Region.wanted o (yielded ops a.tmps)=true then Oper.wp P o a w K Q else E:=by
 have hw:Region.wanted o (yielded ops a.tmps)=true:=by simp [Region.wanted,hgd]
 rw [if_pos hw]
 unfold Oper.wp execOp
 simp only [ho,Instr.alloc,Sem.run_bind,hz,Result.andThen_ok]
 exact h
theorem aH {ops:Array Oper} {o:Oper} {a:Act} {w:World} {K:Act→World→Prop} {Q:Exit→Act→World→Prop} {E:Prop} (hgd:o.guard=none) (ty:TypeId) (x y:Operand) (ho:o.op = .store ty x y)
  (g:Nat) (cs ds:Array Value) (t:TypeId) (hb:w.heap[g]? = some (.cells cs t (0,0))) (hx:a.eval x = .pointer (some ⟨g,0,none⟩)) (hy:a.eval y = .agg ds)
  (hs:ds.size=cs.size) (hi:(P.info? ty).map (·.size)=some ds.size) (h1:ds.all (·.oneCell')=true)
  (h:∀ w',w'.heap[g]? = some (.cells ds t (0,0))→Kept (fun i=>i=g) w w'→w'.heap.size=w.heap.size→K (a.put o.dst undef) w') :
  if Region.wanted o (yielded ops a.tmps)=true then Oper.wp P o a w K Q else E:=by
 have hw:Region.wanted o (yielded ops a.tmps)=true:=by simp [Region.wanted,hgd]
 rw [if_pos hw]
 refine wp_store_mid ty x y ho g 0 ds hx hy (fun j hj=>?_) hi h1 (h _ ?_ ?_ ?_)
 ·rw [aF hb]
  exact ⟨by rw [Array.getElem?_eq_getElem (by omega)];rfl,aC hb _⟩
 ·rw [kT _ _ _ _ _ _ _ hb (by simp [hs])]
  have e:cs.toList.drop (0+ds.toList.length)=[]:=acR (by simp [hs])
  rw [e]
  simp
 ·exact jO g _ _ _ (Kept.refl _ _) (.inl rfl)
 ·have:∀ (vs:List Value) (o:Nat) (w:World),(w.setCells g o vs).heap.size=w.heap.size:=by
   intro vs
   induction vs with
   | nil=>intro o w;rfl
   | cons v vs ih=>intro o w;rw [World.setCells,ih];simp [World.setCell]
  exact this _ _ _
theorem eZ {ops:Array Oper} {o:Oper} {a:Act} {w:World} {K:Act→World→Prop} {Q:Exit→Act→World→Prop} {E:Prop} (hgd:o.guard=none) (ty:TypeId) (x:Operand) (ho:o.op = .load ty x)
  (g off:Nat) (cs:Array Value) (t:TypeId) (fr:Nat×Nat) (d:TypeDesc) (hb:w.heap[g]? = some (.cells cs t fr)) (hx:a.eval x = .pointer (some ⟨g,off,none⟩)) (k:IntKind) (xs:List Int)
  (hp:(cs.toList.drop off).take xs.length=xs.map (Value.int k)) (hu:P.underlying ty=some d) (hd:d.isRow=true) (hi:(P.info? ty).map (·.size)=some xs.length)
  (h:K (a.put o.dst (.agg (arr k xs))) w):if Region.wanted o (yielded ops a.tmps)=true then Oper.wp P o a w K Q else E:=by
 have hw:Region.wanted o (yielded ops a.tmps)=true:=by simp [Region.wanted,hgd]
 rw [if_pos hw]
 exact wp_load_mid ty x ho g off hx (xs.map (Value.int k)) d (aN hb off _ (by rw [acJ];exact hp)) hu hd (by rw [acJ];exact hi) h
end
end Go.Proofs.YthdgbgleklkaiaaDoor
namespace Go.Proofs.YthdgbgleklkaiaaDoor.Hb
open Go.RowKit
def K:List Int:=[4794697086780616226,8158064640168781261,13096744586834688815,16840607885511220156,4131703408338449720,6480981068601479193,10538285296894168987,12329834152419229976,15566598209576043074,1334009975649890238,2608012711638119052,6128411473006802146,8268148722764581231,9286055187155687089,11230858885718282805,13951009754708518548,16472876342353939154,17275323862435702243,1135362057144423861,2597628984639134821,3308224258029322869,5365058923640841347,6679025012923562964,8573033837759648693,10970295158949994411,12119686244451234320,12683024718118986047,13788192230050041572,14330467153632333762,15395433587784984357,489312712824947311,1452737877330783856,2861767655752347644,3322285676063803686,5560940570517711597,5996557281743188959,7280758554555802590,8532644243296465576,9350256976987008742,10552545826968843579,11727347734174303076,12113106623233404929,14000437183269869457,14369950271660146224,15101387698204529176,15463397548674623760,17586052441742319658,1182934255886127544,1847814050463011016,2177327727835720531,2830643537854262169,3796741975233480872,4115178125766777443,5681478168544905931,6601373596472566643,7507060721942968483,8399075790359081724,8693463985226723168,9568029438360202098,10144078919501101548,10430055236837252648,11840083180663258601,13761210420658862357,14299343276471374635,14566680578165727644,15097957966210449927,16922976911328602910,17689382322260857208,500013540394364858,748580250866718886,1242879168328830382,1977374033974150939,2944078676154940804,3659926193048069267,4368137639120453308,4836135668995329356,5532061633213252278,6448918945643986474,6902733635092675308,7801388544844847127]
def H0:List Int:=[7640891576956012808,13503953896175478587,4354685564936845355,11912009170470909681,5840696475078001361,11170449401992604703,2270897969802886507,6620516959819538809]
def eu (x n m:Int):Int:=bits .or .u64 (IntKind.u64.wrap (x * m)) (x / n)
def add (x y:Int):Int:=IntKind.u64.wrap (x+y)
def s0 (x:Int):Int:=bits .xor .u64 (bits .xor .u64 (eu x 2 9223372036854775808) (eu x 256 72057594037927936)) (x / 128)
def s1 (x:Int):Int:=bits .xor .u64 (bits .xor .u64 (eu x 524288 35184372088832) (eu x 2305843009213693952 8)) (x / 64)
def e1 (x:Int):Int:=bits .xor .u64 (bits .xor .u64 (eu x 16384 1125899906842624) (eu x 262144 70368744177664)) (eu x 2199023255552 8388608)
def e0 (x:Int):Int:=bits .xor .u64 (bits .xor .u64 (eu x 268435456 68719476736) (eu x 17179869184 1073741824)) (eu x 549755813888 33554432)
def ch (e f g:Int):Int:=bits .xor .u64 (bits .and .u64 e f) (bits .and .u64 (bits .xor .u64 (if IntKind.u64.signed=true then -1 else IntKind.u64.max) e) g)
def maj (a b c:Int):Int:=bits .xor .u64 (bits .xor .u64 (bits .and .u64 a b) (bits .and .u64 a c)) (bits .and .u64 b c)
def tx (k w:Int) (v:List Int):Int:=add (add (add (add (v.getD 7 0) (e1 (v.getD 4 0))) (ch (v.getD 4 0) (v.getD 5 0) (v.getD 6 0))) k) w
def ty (v:List Int):Int:=add (e0 (v.getD 0 0)) (maj (v.getD 0 0) (v.getD 1 0) (v.getD 2 0))
def RX (k w:Int) (v:List Int):List Int:=[add (tx k w v) (ty v),v.getD 0 0,v.getD 1 0,v.getD 2 0,add (v.getD 3 0) (tx k w v),v.getD 4 0,v.getD 5 0,v.getD 6 0]
def next (ws:List Int) (t:Nat):Int:=add (add (add (s1 (ws.getD (t - 2) 0)) (ws.getD (t - 7) 0)) (s0 (ws.getD (t - 15) 0))) (ws.getD (t - 16) 0)
def part (b:List Int) (o:Nat):Nat→Int
 | 0=>0
 | n+1=>bits .or .u64 (IntKind.u64.wrap (part b o n * 256)) (b.getD (o+n) 0)
def pre (b:List Int) (i:Nat):List Int:=(acF 80).map fun j=>part b (8 * j) (min 8 (i - 8 * j))
def sched (b:List Int) (n:Nat):List Int:=(acF n).foldl (fun ws j=>ws.set (16+j) (next ws (16+j))) (pre b 128)
def rounds (ws h:List Int) (n:Nat):List Int:=(acF n).foldl (fun v t=>RX (K.getD t 0) (ws.getD t 0) v) h
def sums (h v:List Int) (n:Nat):List Int:=h.mapIdx fun i x=>if i < n then add x (v.getD i 0) else x
def comp (h b:List Int):List Int:=sums h (rounds (sched b 64) h 80) 8
theorem yC (b:List Int) (i:Nat):(pre b i).length=80:=by simp [pre]
theorem jU (b:List Int):pre b 0=acE 80 0:=by
 unfold pre
 apply acG
 ·simp
 ·intro i h1 h2
  rw [List.getElem_replicate,acS,Nat.zero_sub,Nat.min_zero]
  rfl
theorem ES (b:List Int) (i j:Nat) (hj:j < 80):(pre b i).getD j 0=part b (8 * j) (min 8 (i - 8 * j)):=by simp [pre,acD,hj]
theorem zT (b:List Int) (i:Nat) (hi:i < 128):pre b (i+1)=(pre b i).set (i / 8) (bits .or .u64 (IntKind.u64.wrap ((pre b i).getD (i / 8) 0 * 256)) (b.getD i 0)):=by
 rw [ES _ _ _ (by omega)]
 apply acG
 ·simp [pre]
 ·intro j h1 h2
  simp only [pre,acJ,List.length_range] at h1
  rw [acT]
  simp only [pre,acS,List.getElem_range]
  by_cases e:i / 8=j
  ·subst e
   rw [if_pos rfl,show min 8 (i+1 - 8 * (i / 8))=i % 8+1 by omega,show min 8 (i - 8 * (i / 8))=i % 8 by omega,part,show 8 * (i / 8)+i % 8=i by omega]
  ·rw [if_neg e]
   congr 1
   omega
theorem jG (b:List Int) (n:Nat):sched b (n+1)=(sched b n).set (16+n) (next (sched b n) (16+n)):=by simp [sched,acU,acH]
theorem gU (b:List Int) (n:Nat):(sched b n).length=80:=by
 induction n with
 | zero=>simp [sched,pre]
 | succ n ih=>rw [jG,acK,ih]
theorem rounds_succ (ws h:List Int) (n:Nat):rounds ws h (n+1)=RX (K.getD n 0) (ws.getD n 0) (rounds ws h n):=by simp [rounds,acU,acH]
theorem gL (ws h:List Int) (hh:h.length=8) (n:Nat):(rounds ws h n).length=8:=by
 cases n with
 | zero=>simpa [rounds] using hh
 | succ n=>rw [rounds_succ];rfl
theorem mM (h v:List Int):sums h v 0=h:=by
 unfold sums
 apply acG <;> simp
theorem zD (h v:List Int) (n:Nat):(sums h v n).length=h.length:=by simp [sums]
theorem pF (h v:List Int) (n i:Nat) (hi:i < h.length) (hn:n≤i):(sums h v n).getD i 0=h.getD i 0:=by
 simp [sums,acD,hi]
 omega
theorem mO (h v:List Int) (n:Nat) (_hn:n < h.length):sums h v (n+1)=(sums h v n).set n (add (h.getD n 0) (v.getD n 0)):=by
 apply acG
 ·simp [sums]
 ·intro i h1 h2
  simp only [sums,List.length_mapIdx] at h1
  rw [acT]
  simp only [sums,List.getElem_mapIdx]
  by_cases e:n=i
  ·subst e
   rw [if_pos (by omega),if_pos rfl]
   simp [acD,h1]
  ·rw [if_neg e]
   by_cases e2:i < n
   ·rw [if_pos (by omega),if_pos e2]
   ·rw [if_neg (by omega),if_neg e2]
theorem qy (h b:List Int):(comp h b).length=h.length:=zD _ _ _
structure S where
 h:List Int
 b:List Int
 n:Nat
def S.take (s:S) (x:Int):S:=if s.n+1=128 then ⟨comp s.h (s.b.set s.n x),s.b.set s.n x,0⟩ else ⟨s.h,s.b.set s.n x,s.n+1⟩
def S.all (s:S) (xs:List Int):S:=xs.foldl S.take s
def S.new:S:=⟨H0,acE 128 0,0⟩
def tail (n:Nat):List Int:=128 :: acE ((2 * 128 - 16 - 1 - n % 128) % 128) 0 ++ acE (16 - 8) 0 ++ (acF 8).map fun i=>((8 * n / 2 ^ (8 * (7 - i)) % 256:Nat):Int)
def digest (h:List Int):List Int:=(acF 64).map fun i=>h.getD (i / 8) 0 / 2 ^ (8 * (7 - i % 8)) % 256
def hash (m:List Int):List Int:=digest ((S.new.all (m ++ tail m.length)).h)
theorem dS (m:List Int):(hash m).length=64:=by simp [hash,digest]
structure S.Ok (s:S):Prop where
 h:s.h.length=8
 b:s.b.length=128
 n:s.n < 128
 by0:∀ x∈s.b,0≤x∧x≤255
theorem S.Ok.take {s:S} (h:s.Ok) (x:Int) (hx:0≤x∧x≤255):(s.take x).Ok:=by
 have hn:=h.n
 have hb:∀ y∈s.b.set s.n x,0≤y∧y≤255:=by
  intro y hy
  rcases List.mem_or_eq_of_mem_set hy with h1|rfl
  ·exact h.by0 y h1
  ·exact hx
 unfold S.take
 split
 ·exact ⟨(qy _ _).trans h.h,by rw [acK];exact h.b,by show 0 < _;omega,hb⟩
 ·exact ⟨h.h,by rw [acK];exact h.b,by show s.n+1 < _;omega,hb⟩
theorem S.Ok.all {s:S} (h:s.Ok):∀ (xs:List Int),(∀ x∈xs,0≤x∧x≤255)→(s.all xs).Ok:=by
 intro xs
 induction xs generalizing s with
 | nil=>intro _;exact h
 | cons x xs ih=>intro hx;exact ih (h.take x (hx x (by simp))) fun y hy=>hx y (by simp [hy])
theorem S.Ok.new:S.new.Ok:=by
 refine ⟨rfl,by simp [S.new],by simp [S.new],?_⟩
 intro x hx
 have:=List.eq_of_mem_replicate hx
 omega
theorem S.zw (s:S) (h:s.n < 128) (x:Int):(s.take x).n=(s.n+1) % 128:=by
 unfold S.take
 split
 ·rename_i e;rw [e]
 ·show s.n+1=_;omega
theorem S.Eh:∀ (xs:List Int) (s:S),s.n < 128→(s.all xs).n=(s.n+xs.length) % 128
 | [],s,h=>by show s.n=_;simp;omega
 | x :: xs,s,h=>by
  have h1:(s.take x).n < 128:=by rw [S.zw s h];omega
  have:=S.Eh xs (s.take x) h1
  show ((s.take x).all xs).n=_
  rw [this,S.zw s h,List.length_cons]
  omega
theorem S.all_append (s:S) (xs ys:List Int):s.all (xs ++ ys)=(s.all xs).all ys:=by simp [S.all,acH]
theorem S.jw (s:S) (xs:List Int) (x:Int):s.all (xs ++ [x])=(s.all xs).take x:=by simp [S.all,acH]
end Go.Proofs.YthdgbgleklkaiaaDoor.Hb
namespace Go.Proofs.YthdgbgleklkaiaaDoor.Hb
open Go.RowKit
theorem RD (cs:List Value) (i:Nat) (v:Value):cs.toArray.setIfInBounds i v=(cs.set i v).toArray:=by simp
theorem yY (w:World):(zeroValue 133).run Tryd.prog w = .ok (.agg (arr .u64 (acE 80 0))) w:=by kernel_rfl
theorem mP:(Tryd.prog.info? 132).map (·.size)=some 8:=by kernel_rfl
end Go.Proofs.YthdgbgleklkaiaaDoor.Hb
namespace Go.Proofs.YthdgbgleklkaiaaDoor.Hb
open Go.RowKit
theorem bf (k:IntKind) (xs:List Int) (i:Nat) (v:Int):(arr k xs).setIfInBounds i (.int k v)=arr k (xs.set i v):=by
 unfold arr
 rw [RD,List.map_set]
theorem aI {w:World} {g:Nat} {k:IntKind} {xs:List Int} {t:TypeId} {fr:Nat×Nat} (h:w.heap[g]? = some (.cells (arr k xs) t fr)) (i:Nat) (hi:i < xs.length):w.cell? ⟨g,i,none⟩=some (.int k (xs.getD i 0)):=by
 rw [aF h,uQ _ _ _ hi]
theorem bI {w:World} {g:Nat} {k:IntKind} {xs:List Int} {t:TypeId} (h:w.heap[g]? = some (.cells (arr k xs) t (0,0))) (i:Nat) (v:Int):(w.setCell ⟨g,i,none⟩ (.int k v)).heap[g]? = some (.cells (arr k (xs.set i v)) t (0,0)):=by
 rw [bq h,bf]
theorem byte_at {b:List Int} (hb:∀ x∈b,0≤x∧x≤255) (j:Nat):0≤b.getD j 0∧b.getD j 0≤255:=by
 simp only [acD]
 cases e:b[j]? with
 | none=>simp
 | some y=>simpa using hb y (List.mem_of_getElem? e)
end Go.Proofs.YthdgbgleklkaiaaDoor.Hb
namespace Go.Proofs.YthdgbgleklkaiaaDoor.Hb
open Go.RowKit
theorem Dc (w:World):(zeroValue 132).run Tryd.prog w = .ok (.agg (arr .u64 (acE 8 0))) w:=by kernel_rfl
theorem pO {a0 a1 a2 a3 a4 a5 a6 a7 b0 b1 b2 b3 b4 b5 b6 b7:Int} (h0:a0=b0) (h1:a1=b1) (h2:a2=b2) (h3:a3=b3) (h4:a4=b4) (h5:a5=b5) (h6:a6=b6) (h7:a7=b7) :
  [a0,a1,a2,a3,a4,a5,a6,a7]=[b0,b1,b2,b3,b4,b5,b6,b7]:=by
 subst h0 h1 h2 h3 h4 h5 h6 h7
 rfl
theorem Ja (a b:Int):IntKind.u64.wrap (a+b)=add a b:=rfl
theorem iP {P:Program} {ops:Array Oper} {rest:List Oper} {o:Oper} {a:Act} {w:World} {Q:Exit→Act→World→Prop} (hgd:o.guard=none) (ty:TypeId) (x y:Operand) (ho:o.op = .store ty x y)
  (g:Nat) (k:IntKind) (ys:List Int) (t:TypeId) (hb:w.heap[g]? = some (.cells (arr k ys) t (0,0))) (hx:a.eval x = .pointer (some ⟨g,0,none⟩)) (a0 a1 a2 a3 a4 a5 a6 a7:Int)
  (hy:a.eval y = .agg #[Value.int k a0, .int k a1, .int k a2, .int k a3, .int k a4, .int k a5, .int k a6, .int k a7]) (hl:ys.length=8) (hi:(P.info? ty).map (·.size)=some 8)
  (h:∀ w',w'.heap[g]? = some (.cells (arr k [a0,a1,a2,a3,a4,a5,a6,a7]) t (0,0))→Kept (fun i=>i=g) w w'→w'.heap.size=w.heap.size→wpList P ops Q rest (a.put o.dst undef) w') :
  wpList P ops Q (o :: rest) a w:=by
 refine ah hgd ty x y ho g (arr k ys) (arr k [a0,a1,a2,a3,a4,a5,a6,a7]) t hb hx hy ?_ ?_ (av _ _) h
 ·rw [aD,aD,hl];rfl
 ·rw [aD];exact hi
end Go.Proofs.YthdgbgleklkaiaaDoor.Hb
namespace Go.Proofs.YthdgbgleklkaiaaDoor.Hb
open Go.RowKit
theorem S.take_len (s:S) (x:Int):(s.take x).h.length=s.h.length∧(s.take x).b.length=s.b.length:=by
 unfold S.take
 split
 ·exact ⟨qy _ _,by simp⟩
 ·exact ⟨rfl,by simp⟩
theorem S.oo:∀ (xs:List Int) (s:S),(s.all xs).h.length=s.h.length∧(s.all xs).b.length=s.b.length
 | [],_=>⟨rfl,rfl⟩
 | x :: xs,s=>by
  have:=S.oo xs (s.take x)
  have h:=S.take_len s x
  exact ⟨this.1.trans h.1,this.2.trans h.2⟩
theorem set_mid (a b:List Int) (i:Nat) (x:Int) (ha:a.length=i) (hb:i < b.length):(a ++ b.drop i).set i x=a ++ [x] ++ b.drop (i+1):=by
 rw [List.set_append_right _ _ (by omega),ha,Nat.sub_self,List.drop_eq_getElem_cons hb,List.set_cons_zero]
 simp
theorem S.FT (s:S) (bl:List Int) (hn:s.n=0) (hb:s.b.length=128) (hl:bl.length=128):∀ i,i < 128→s.all (bl.take i)=⟨s.h,bl.take i ++ s.b.drop i,i⟩:=by
 intro i
 induction i with
 | zero =>
  intro _
  obtain ⟨h,b,n⟩:=s
  simp only at hn
  subst hn
  simp [S.all]
 | succ i ih =>
  intro hi
  have e:bl.take (i+1)=bl.take i ++ [bl.getD i 0]:=by
   rw [acV (by omega)]
   simp [acD,show i < bl.length by omega]
  rw [e,S.jw,ih (by omega),S.take,if_neg (by show ¬ i+1=_;omega)]
  simp only
  rw [set_mid _ _ _ _ (by simp;omega) (by omega)]
theorem S.vV (s:S) (bl:List Int) (hn:s.n=0) (hb:s.b.length=128) (hl:bl.length=128):s.all bl=⟨comp s.h bl,bl,0⟩:=by
 have e:bl=bl.take (128 - 1) ++ [bl.getD (128 - 1) 0]:=by
  have:bl.take (128 - 1+1)=bl.take (128 - 1) ++ [bl.getD (128 - 1) 0]:=by
   rw [acV (by omega)]
   simp [acD,hl]
  rw [← this,acW (by omega)]
 have hd:(bl.take (128 - 1) ++ s.b.drop (128 - 1)).set (128 - 1) (bl.getD (128 - 1) 0)=bl:=by
  rw [set_mid _ _ _ _ (by simp;omega) (by omega),acR (by omega),acQ,← e]
 have h1:s.all bl=(s.all (bl.take (128 - 1))).take (bl.getD (128 - 1) 0):=by rw [← S.jw,← e]
 rw [h1,S.FT s bl hn hb hl _ (by omega),S.take,if_pos rfl]
 simp only [hd]
def eU (pm:List Int) (q:Nat):List Int:=(pm.drop (128 * q)).take 128
def jq (pm:List Int) (q:Nat):List Int:=(S.new.all (pm.take (128 * q))).h
theorem Lb (pm:List Int) (q:Nat):(jq pm q).length=8:=(S.oo _ _).1
theorem Fv (pm:List Int):jq pm 0=H0:=by simp [jq,S.all,S.new]
theorem Fw (pm:List Int) (q:Nat) (h:128 * (q+1)≤pm.length):jq pm (q+1)=comp (jq pm q) (eU pm q):=by
 unfold jq eU
 have e:pm.take (128 * (q+1))=pm.take (128 * q) ++ (pm.drop (128 * q)).take 128:=by rw [Nat.mul_succ,List.take_add]
 rw [e,S.all_append,S.vV _ _ ?_ ?_ ?_]
 ·rw [S.Eh _ _ S.Ok.new.n,acX,Nat.min_eq_left (by omega)]
  show (0+128 * q) % 128=0
  omega
 ·rw [(S.oo _ _).2];simp [S.new]
 ·rw [acX,List.length_drop];omega
theorem Lc (pm:List Int) (q:Nat) (h:pm.length=128 * q):(S.new.all pm).h=jq pm q:=by
 unfold jq
 rw [acW (by omega)]
theorem FP (pm:List Int) (q j:Nat) (hj:j < 128):(eU pm q).getD j 0=pm.getD (128 * q+j) 0:=by
 unfold eU
 simp only [acD,acM,hj,if_true,List.getElem?_drop]
theorem zx (n:Nat):∃ q,n+(tail n).length=128 * q:=by
 refine ⟨(n+(tail n).length) / 128,?_⟩
 have:(tail n).length=1+(2 * 128 - 16 - 1 - n % 128) % 128+16:=by simp [tail];omega
 rw [this]
 omega
theorem rP (n:Nat):∀ x∈tail n,0≤x∧x≤255:=by
 intro x hx
 simp only [tail,List.mem_append,List.mem_cons,List.mem_replicate,List.mem_map,List.mem_range] at hx
 rcases hx with ((rfl|⟨_,rfl⟩)|⟨_,rfl⟩)|⟨i,_,rfl⟩
 all_goals omega
end Go.Proofs.YthdgbgleklkaiaaDoor.Hb
