/- Bytes: Lists of bytes: bytes.Clone: A slice of bytes that came in, as a source; ChaCha20 in plain words. chacha.quarter, word and the document's quarter, little: chacha.quarter and. Condition: as each theorem says. -/
import Derived.Deep.AppendLies
import Derived.Deep.OwnRows
import Derived.Laws.BytesArg
import Derived.Laws.CopyOwn
import Derived.Laws.OwnMore
import Derived.Maps.AppendAt
import Derived.OwnWalk
import Derived.RegionTactic
import Derived.StillTailTactics
import Derived.Test.YthdgbgleklkaiaaDoorChecked
import Derived.WalkSpells
import Derived.Test.YthdgbgleklkaiaaDoorQa01
import Derived.Test.YthdgbgleklkaiaaDoorQa04
set_option linter.unusedSimpArgs false
set_option linter.unusedVariables false
set_option maxRecDepth 100000
set_option maxHeartbeats 16000000
namespace Go.Proofs.YthdgbgleklkaiaaDoor
open Go.RowKit
def jK (b:List Int) (sp:List Value):Array Value:=(b.map (Value.int .u8) ++ sp).toArray
structure Src (w:World) (sa:Option Addr) (n:Nat) (xs:List Int):Prop where
 len:xs.length=n
 cell:∀ i,i < n→∃ a,sa=some a∧w.cell? (a.add i)=some (.int .u8 (xs.getD i 0))
theorem tq (b:List Int) (sp:List Value) (i:Nat) (h:i < b.length):(jK b sp)[i]? = some (.int .u8 (b.getD i 0)):=by
 unfold jK
 rw [List.getElem?_toArray,List.getElem?_append_left (by simpa using h)]
 simp [List.getD,h]
theorem Uq (b:List Int) (sp:List Value) (i:Nat) (h:i < b.length) (x:Int):(jK b sp).setIfInBounds i (.int .u8 x)=jK (b.set i x) sp:=by
 unfold jK
 rw [List.setIfInBounds_toArray,List.set_append_left _ _ (by simpa using h),List.map_set]
theorem Kept.lM {T:Nat→Prop} {a b:World} (h:Kept T a b) {x:Addr} {v:Value} (hx:a.cell? x=some v) (ht:¬ T x.block):b.cell? x=some v :=
 (World.cell?_of_block (h.block x.block (World.block_lt_of_cell? a x hx) ht)).trans hx
theorem block_add (a:Addr) (n:Nat):(a.add n).block=a.block:=by unfold Addr.add;split <;> rfl
theorem sU:(Tryd.prog.info? 5).map (·.size)=some 1:=by kernel_rfl
def jQ (w:World) (B:Nat) (v:Value) (xs:List Int):Prop :=
 ∃ g cap sp,v = .slice (some ⟨g,0,none⟩) xs.length cap∧B≤g∧w.heap[g]? = some (.cells (jK xs sp) 5 (0,0))∧cap=xs.length+sp.length∧cap≤maxLen
theorem jQ.JQ {w:World} {B:Nat} {v:Value} {xs:List Int} (h:w.ownsRow B 5 1 v xs.length (xs.map (Value.int .u8))) (hv:v ≠ .slice none 0 0):jQ w B v xs:=by
 obtain ⟨h1,h2⟩:=h
 rcases h2 with ⟨rfl,_⟩|⟨g,cap,cur,rfl,hB,hg,hn,hm,hs,ht⟩
 ·exact absurd rfl hv
 ·refine ⟨g,cap,cur.toList.drop xs.length,rfl,hB,?_,?_,hm⟩
  ·rw [hg]
   congr 2
   unfold jK
   rw [← ht]
   simp
  ·simp [hs];omega
theorem xR:(Tryd.prog.info? 5).map (fun i=>(i.zero,i.size,i.bytes))=some (some (.int .u8 0),1,1):=by kernel_rfl
theorem jQ.str {w:World} {B:Nat} {v:Value} {xs:List Int} (h:jQ w B v xs):(convert 24 9 v).run Tryd.prog w = .ok (.string (strOfNums xs)) w:=by
 obtain ⟨g,cap,sp,rfl,_,hg,_,_⟩:=h
 refine run_convert_bytes_arg w 24 5 Tryd.underlying24 Tryd.underlying5 g 0 _ _ xs rfl (fun i hi=>?_) 9 Tryd.underlying9
 rw [Nat.zero_add,aG hg,tq _ _ _ hi]
theorem jQ.kept {T:Nat→Prop} {w w':World} {B:Nat} {v:Value} {xs:List Int} (h:jQ w B v xs) (k:Kept T w w') (hT:∀ g,B≤g→g < w.heap.size→¬ T g):jQ w' B v xs:=by
 obtain ⟨g,cap,sp,hv,hB,hg,h1,h2⟩:=h
 exact ⟨g,cap,sp,hv,hB,k.blk hg (hT g hB (aR hg)),h1,h2⟩
theorem jQ.mono {w:World} {B B':Nat} {v:Value} {xs:List Int} (h:jQ w B v xs) (hB:B'≤B):jQ w B' v xs:=by
 obtain ⟨g,cap,sp,hv,h0,hg,h1,h2⟩:=h
 exact ⟨g,cap,sp,hv,by omega,hg,h1,h2⟩
theorem jQ.drewN {w:World} {B:Nat} {v:Value} {xs:List Int} (h:jQ w B v xs) (n:Nat):jQ (w.drewN n) B v xs:=h
def zeros (n:Nat):List Int:=List.replicate n 0
theorem made8 (n:Nat):madeCells #[Value.int .u8 0] n=jK (zeros n) []:=by
 unfold jK zeros
 apply Array.ext
 ·simp [size_madeCells]
 ·intro i h1 h2
  simp [madeCells,Nat.mod_one]
theorem mk8 (n:Nat) (hn:n≤1099511627776) (w:World) :
  (Instr.makeSlice 24 (.int .i64 (n:Int)) (.int .i64 (n:Int))).run Tryd.prog w = .ok (.slice (some ⟨w.heap.size,0,none⟩) n n) (w.alloc (.cells (jK (zeros n) []) 5)):=by
 rw [← made8]
 exact run_make_row' 24 5 (.int .u8 0) 1 Tryd.underlying24 xR rfl .i64 .i64 n (by omega) (by omega) w
theorem Ob {w:World} {b:Nat} {xs:List Int} {sp:List Value} (h:w.heap[b]? = some (.cells (jK xs sp) 5 (0,0))):Src w (some ⟨b,0,none⟩) xs.length xs:=by
 refine ⟨rfl,fun i hi=>⟨_,rfl,?_⟩⟩
 have e:(⟨b,0,none⟩:Addr).add i=⟨b,i,none⟩:=by unfold Addr.add;split <;> simp_all
 rw [e,aG h,tq _ _ _ hi]
def aV (w:World) (B:Nat) (v:Value) (xs:List Int):Prop:=w.ownsRow B 5 1 v xs.length (xs.map (Value.int .u8))
theorem aV.nil (w:World) (B:Nat):aV w B (.slice none 0 0) []:=⟨by simp, .inl ⟨rfl,rfl⟩⟩
theorem aV.OA {w:World} {B:Nat} {v:Value} {xs:List Int} (h:jQ w B v xs):aV w B v xs:=by
 obtain ⟨g,cap,sp,rfl,hB,hg,hc,hm⟩:=h
 refine ⟨by simp, .inr ⟨g,cap,_,rfl,hB,hg,by omega,hm,by simp [jK];omega,?_⟩⟩
 simp [jK]
theorem nu {w:World} {g:Nat} {cur:Array Value} {fr:Nat×Nat} {t:TypeId} {xs:List Int} {m:Nat} (hg:w.heap[g]? = some (.cells cur t fr)) (ht:cur.toList.take (xs.length * 1)=xs.map (Value.int .u8)) (hm:xs.length=m) :
  Src w (some ⟨g,0,none⟩) m xs:=by
 subst hm
 refine ⟨rfl,fun i hi=>⟨_,rfl,?_⟩⟩
 have e:(⟨g,0,none⟩:Addr).add i=⟨g,i,none⟩:=by unfold Addr.add;split <;> simp_all
 have hl:=congrArg (fun l=>l[i]?) ht
 simp only [Nat.mul_one,List.getElem?_take,hi,if_true,List.getElem?_map] at hl
 have hx:xs[i]? = some (xs.getD i 0):=by simp [List.getD,hi]
 rw [e,World.cell?]
 simp only [hg]
 rw [hx] at hl
 simpa using hl
theorem aV.form {w:World} {B:Nat} {v:Value} {xs:List Int} (h:aV w B v xs) :
  ∃ sa c,v = .slice sa xs.length c∧xs.length≤c∧c≤maxLen∧Src w sa xs.length xs∧((sa=none∧xs=[]∧c=0)∨∃ g,sa=some ⟨g,0,none⟩∧B≤g∧g < w.heap.size):=by
 obtain ⟨h1,h2⟩:=h
 rcases h2 with ⟨rfl,h0⟩|⟨g,cap,cur,rfl,hB,hg,hn,hm,hs,ht⟩
 ·have:xs=[]:=List.eq_nil_of_length_eq_zero h0
  subst this
  exact ⟨none,0,rfl,by simp,by simp [maxLen],⟨rfl,fun i hi=>absurd hi (by simp)⟩, .inl ⟨rfl,rfl,rfl⟩⟩
 ·exact ⟨_,cap,rfl,hn,hm,nu hg ht rfl, .inr ⟨g,rfl,hB,aR hg⟩⟩
theorem aV.kept {T:Nat→Prop} {w w':World} {B:Nat} {v:Value} {xs:List Int} (h:aV w B v xs) (k:Kept T w w') (hT:∀ g,v.ownBlock=some g→¬ T g):aV w' B v xs:=by
 obtain ⟨h1,h2⟩:=h
 refine ⟨h1,?_⟩
 rcases h2 with h0|⟨g,cap,cur,rfl,hB,hg,hr⟩
 ·exact .inl h0
 ·exact .inr ⟨g,cap,cur,rfl,hB,k.blk hg (hT g rfl),hr⟩
theorem aV.below {w w':World} {B:Nat} {v:Value} {xs:List Int} (h:aV w B v xs) (k:Below w.heap.size w w'):aV w' B v xs :=
 h.kept (T:=fun _=>False) (Kept.of_below k) (fun _ _=>id)
theorem aV.drewN {w:World} {B:Nat} {v:Value} {xs:List Int} (h:aV w B v xs) (n:Nat):aV (w.drewN n) B v xs:=h
theorem aV.drew {w:World} {B:Nat} {v:Value} {xs:List Int} (h:aV w B v xs):aV w.drew B v xs:=h
theorem aV.alloc {w:World} {B:Nat} {v:Value} {xs:List Int} (h:aV w B v xs) (o:Obj):aV (w.alloc o) B v xs:=h.below ((Below.refl _ w).alloc (Nat.le_refl _) o)
theorem aV.mono {w:World} {B B':Nat} {v:Value} {xs:List Int} (h:aV w B v xs) (hB:B'≤B):aV w B' v xs:=by
 obtain ⟨h1,h2⟩:=h
 refine ⟨h1,?_⟩
 rcases h2 with h0|⟨g,cap,cur,rfl,hb,hr⟩
 ·exact .inl h0
 ·exact .inr ⟨g,cap,cur,rfl,by omega,hr⟩
theorem aV.lt {w:World} {B:Nat} {v:Value} {xs:List Int} (h:aV w B v xs):∀ k,v.ownBlock=some k→B≤k∧k < w.heap.size:=World.ownsRow.lt h
theorem aV.len {w:World} {B:Nat} {v:Value} {xs:List Int} (h:aV w B v xs):xs.length≤maxLen:=by
 obtain ⟨_,c,_,h1,h2,_⟩:=h.form
 omega
theorem src_str {w:World} {sa:Option Addr} {n c:Nat} {xs:List Int} (h:Src w sa n xs) (hp:∀ a,sa=some a→a.spot=none):(convert 24 9 (.slice sa n c)).run Tryd.prog w = .ok (.string (strOfNums xs)) w:=by
 cases sa with
 | none =>
  have h0:n=0:=by
   rcases Nat.eq_zero_or_pos n with h0|h0
   ·exact h0
   ·obtain ⟨_,he,_⟩:=h.cell 0 h0
    cases he
  have hx:xs=[]:=List.eq_nil_of_length_eq_zero (h.len.trans h0)
  subst hx
  exact run_convert_bytes_nil w 24 5 Tryd.underlying24 Tryd.underlying5 n c 9 Tryd.underlying9
 | some a =>
  obtain ⟨b,off,el⟩:=a
  have:el=none:=hp _ rfl
  subst this
  refine run_convert_bytes_arg w 24 5 Tryd.underlying24 Tryd.underlying5 b off n c xs h.len (fun i hi=>?_) 9 Tryd.underlying9
  obtain ⟨a',he,hc⟩:=h.cell i hi
  cases he
  have e:(⟨b,off,none⟩:Addr).add i=⟨b,off+i,none⟩:=by unfold Addr.add;split <;> simp_all
  rwa [e] at hc
theorem aV.str {w:World} {B:Nat} {v:Value} {xs:List Int} (h:aV w B v xs):(convert 24 9 v).run Tryd.prog w = .ok (.string (strOfNums xs)) w:=by
 obtain ⟨sa,c,rfl,_,_,hs,hf⟩:=h.form
 refine src_str hs (fun a ha=>?_)
 rcases hf with ⟨rfl,_⟩|⟨g,rfl,_⟩
 ·cases ha
 ·cases ha;rfl
theorem Src.kept {T:Nat→Prop} {w w':World} {sa:Option Addr} {n:Nat} {xs:List Int} (h:Src w sa n xs) (k:Kept T w w') (hT:∀ a,sa=some a→n=0∨¬ T a.block):Src w' sa n xs:=by
 refine ⟨h.len,fun i hi=>?_⟩
 obtain ⟨a,he,hc⟩:=h.cell i hi
 refine ⟨a,he,k.lM hc ?_⟩
 rw [block_add]
 rcases hT a he with h0|h0
 ·omega
 ·exact h0
theorem Src.below {w w':World} {sa:Option Addr} {n:Nat} {xs:List Int} (h:Src w sa n xs) (k:Below w.heap.size w w'):Src w' sa n xs :=
 h.kept (T:=fun _=>False) (Kept.of_below k) (fun _ _ => .inr id)
theorem jf {w:World} {sa:Option Addr} {n:Nat} {xs:List Int} (h:Src w sa n xs) (a:Addr) (ha:sa=some a):∀ j u,(xs.map (Value.int .u8))[j]? = some u→w.cell? (a.add j)=some u:=by
 intro j u hj
 rw [List.getElem?_map] at hj
 have hjl:j < xs.length:=by
  rcases Nat.lt_or_ge j xs.length with q|q
  ·exact q
  ·rw [List.getElem?_eq_none q] at hj;cases hj
 obtain ⟨a',he,hc⟩:=h.cell j (by rw [← h.len];exact hjl)
 rw [ha] at he
 cases he
 rw [hc]
 simp [hjl] at hj
 simp [List.getD,hjl,hj]
theorem mF (k:IntKind) (xs:List Int):∀ u∈xs.map (Value.int k),u.oneCell'=true:=by
 intro u hu
 obtain ⟨x,_,rfl⟩:=List.mem_map.1 hu
 rfl
theorem Um {w:World} {B:Nat} {v:Value} {xs ys:List Int} {sa:Option Addr} {m c:Nat} {ty:TypeId} (hown:aV w B v xs) (hsrc:Src w sa m ys) (hlen:xs.length+m≤140737488355328) (hbase:B≤w.heap.size) :
  ∃ v' w',(Builtin.append_ #[24, 24] ty #[v, .slice sa m c]).run Tryd.prog w = .ok v' w'∧aV w' B v' (xs ++ ys)∧w.grownBy w' v.ownBlock ∧
   (v' = .slice none 0 0↔v = .slice none 0 0∧m=0)∧(v'.ownBlock=v.ownBlock∨v'.ownBlock=some w.heap.size):=by
 obtain ⟨i0,hi,hz0,hz1,hz2⟩:=info_parts xR
 cases sa with
 | none =>
  have h0:m=0:=by
   rcases Nat.eq_zero_or_pos m with h0|h0
   ·exact h0
   ·obtain ⟨_,he,_⟩:=hsrc.cell 0 h0
    cases he
  have hy:ys=[]:=List.eq_nil_of_length_eq_zero (hsrc.len.trans h0)
  subst hy
  subst h0
  refine ⟨v,w,?_,by rw [List.append_nil];exact hown,⟨rfl,rfl,rfl,Nat.le_refl _,fun _ _ _=>rfl⟩,by simp, .inl rfl⟩
  rcases hown.2 with ⟨rfl,h0⟩|⟨g,cap,cur,rfl,_,_,hnc,_⟩
  ·simp [Builtin.append_,run_underlying Tryd.underlying24, sizeOf,typeInfo,hi,Builtin.lenOf,Builtin.firstCells]
  ·simp [Builtin.append_,run_underlying Tryd.underlying24, sizeOf,typeInfo,hi,Builtin.lenOf,Builtin.firstCells,hnc,storeCells]
 | some a =>
  obtain ⟨v',w',h1,h2,h3,h4,h5⟩:=run_append_own_at (P := Tryd.prog) w B 24 ty 5 i0 (.int .u8 0) 1 1 Tryd.underlying24 hi hz0 hz1 hz2 rfl (by decide) v xs.length (xs.map (Value.int .u8)) hown a m c (ys.map (Value.int .u8))
   (by simp [hsrc.len]) (jf hsrc a rfl) (mF _ _) (by unfold maxLen;omega) (by omega) hbase
  refine ⟨v',w',h1,?_,h3,h4,h5⟩
  unfold aV
  rw [List.length_append,hsrc.len,List.map_append]
  exact h2
theorem NZ {w:World} {o:Oper} {a:Act} {K:Act→World→Prop} {Q:Exit→Act→World→Prop} (s x:Operand)
  (ho:o.op = .call { callee := .builtin .append,args := #[s,x],argTypes := #[24, 24] })
  (B:Nat) (v:Value) (xs:List Int) (hs:a.eval s=v) (hown:aV w B v xs) (sa:Option Addr) (m c:Nat) (ys:List Int) (hx:a.eval x = .slice sa m c) (hsrc:Src w sa m ys)
  (hlen:xs.length+m≤140737488355328) (hbase:B≤w.heap.size)
  (h:∀ v' w',aV w' B v' (xs ++ ys)→w.grownBy w' v.ownBlock→(v' = .slice none 0 0↔v = .slice none 0 0∧m=0)→(v'.ownBlock=v.ownBlock∨v'.ownBlock=some w.heap.size)→K (a.put o.dst v') w'):o.wp Tryd.prog a w K Q:=by
 obtain ⟨v',w',hr,h2,h3,h4,h5⟩:=Um (ty:=o.type) (c:=c) hown hsrc hlen hbase
 unfold Oper.wp execOp
 simp only [ho,resolve,invoke,builtin,Sem.run_bind,Sem.run_pure,Result.andThen_ok,List.map_toArray,List.map_cons,List.map_nil,hs,hx,hr]
 exact h v' w' h2 h3 h4 h5
theorem aO {w:World} {ops:Array Oper} {rest:List Oper} {o:Oper} {a:Act} {Q:Exit→Act→World→Prop} (hgd:o.guard=none) (s x:Operand)
  (ho:o.op = .call { callee := .builtin .append,args := #[s,x],argTypes := #[24, 24] })
  (B:Nat) (v:Value) (xs:List Int) (hs:a.eval s=v) (hown:aV w B v xs) (sa:Option Addr) (m c:Nat) (ys:List Int) (hx:a.eval x = .slice sa m c) (hsrc:Src w sa m ys)
  (hlen:xs.length+m≤140737488355328) (hbase:B≤w.heap.size)
  (h:∀ v' w',aV w' B v' (xs ++ ys)→w.grownBy w' v.ownBlock→(v' = .slice none 0 0↔v = .slice none 0 0∧m=0)→(v'.ownBlock=v.ownBlock∨v'.ownBlock=some w.heap.size)→wpList Tryd.prog ops Q rest (a.put o.dst v') w') :
  wpList Tryd.prog ops Q (o :: rest) a w :=
 wpList_plain hgd fun _ hK=>NZ s x ho B v xs hs hown sa m c ys hx hsrc hlen hbase fun v' w' h2 h3 h4 h5=>hK _ _ (h v' w' h2 h3 h4 h5)
theorem fQ {w:World} {ops:Array Oper} {o:Oper} {a:Act} {K:Act→World→Prop} {Q:Exit→Act→World→Prop} {E:Prop} (hgd:o.guard=none) (s x:Operand)
  (ho:o.op = .call { callee := .builtin .append,args := #[s,x],argTypes := #[24, 24] })
  (B:Nat) (v:Value) (xs:List Int) (hs:a.eval s=v) (hown:aV w B v xs) (sa:Option Addr) (m c:Nat) (ys:List Int) (hx:a.eval x = .slice sa m c) (hsrc:Src w sa m ys)
  (hlen:xs.length+m≤140737488355328) (hbase:B≤w.heap.size)
  (h:∀ v' w',aV w' B v' (xs ++ ys)→w.grownBy w' v.ownBlock→(v' = .slice none 0 0↔v = .slice none 0 0∧m=0)→(v'.ownBlock=v.ownBlock∨v'.ownBlock=some w.heap.size)→K (a.put o.dst v') w') :
  if Region.wanted o (yielded ops a.tmps)=true then Oper.wp Tryd.prog o a w K Q else E:=by
 have hw:Region.wanted o (yielded ops a.tmps)=true:=by simp [Region.wanted,hgd]
 rw [if_pos hw]
 exact NZ s x ho B v xs hs hown sa m c ys hx hsrc hlen hbase h
theorem aQ {w w' w0:World} {B:Nat} {v:Value} {xs:List Int} (hown:aV w B v xs) (hg:w.grownBy w' v.ownBlock) (hb:Below B w0 w) (hB:B≤w.heap.size):Below B w0 w' :=
 hb.grown hg hB (fun k hk=>(hown.lt k hk).1)
theorem kD (w:World) (x:Int):Src (w.alloc (.cells #[.int .u8 x] 5)) (some ⟨w.heap.size,0,none⟩) 1 [x]:=by
 refine ⟨rfl,fun i hi=>⟨_,rfl,?_⟩⟩
 obtain rfl:i=0:=by omega
 rw [show (⟨w.heap.size,0,none⟩:Addr).add 0=⟨w.heap.size,0,none⟩ from rfl,aG (aL w _)]
 rfl
end Go.Proofs.YthdgbgleklkaiaaDoor
namespace Go.Proofs.YthdgbgleklkaiaaDoor
open Go.RowKit
structure qD (w:World) (sa:Option Addr) (n:Nat) (L:List (List Int)):Prop where
 len:L.length=n
 cell:∀ i,i < n→∃ a si ci,sa=some a∧w.cell? (a.add i)=some (.slice si (L.getD i []).length ci)∧(L.getD i []).length≤ci∧Src w si (L.getD i []).length (L.getD i [])
theorem qD.below {w w':World} {sa:Option Addr} {n:Nat} {L:List (List Int)} (h:qD w sa n L) (k:Below w.heap.size w w'):qD w' sa n L:=by
 refine ⟨h.len,fun i hi=>?_⟩
 obtain ⟨a,si,ci,h1,h2,h3,h4⟩:=h.cell i hi
 exact ⟨a,si,ci,h1,(k.cell (World.block_lt_of_cell? w _ h2)).trans h2,h3,h4.below k⟩
def bytes (xs:List Int):Prop:=∀ x∈xs,0≤x∧x≤255
theorem bytes_at {xs:List Int} (h:bytes xs) (i:Nat):0≤xs.getD i 0∧xs.getD i 0≤255:=by
 simp only [List.getD]
 cases e:xs[i]? with
 | none=>simp
 | some y=>simpa using h y (List.mem_of_getElem? e)
theorem iD {α:Type} (xs:List α) (i:Nat) (d:α) (h:i < xs.length):xs.take (i+1)=xs.take i ++ [xs.getD i d]:=by
 rw [List.take_succ_eq_append_getElem h]
 simp [List.getD,h]
theorem CQ (L:List (List Int)) (i:Nat) (h:i < L.length):(L.take (i+1)).flatten=(L.take i).flatten ++ L.getD i []:=by
 rw [iD L i [] h,List.flatten_append]
 simp
theorem flat_le (L:List (List Int)) (i:Nat) (h:i < L.length):(L.take i).flatten.length+(L.getD i []).length≤L.flatten.length:=by
 have e:=congrArg List.length (CQ L i h)
 rw [List.length_append] at e
 rw [← e]
 have e2:L.flatten=(L.take (i+1)).flatten ++ (L.drop (i+1)).flatten:=by rw [← List.flatten_append,List.take_append_drop]
 rw [e2,List.length_append]
 omega
end Go.Proofs.YthdgbgleklkaiaaDoor
namespace Go.Proofs.YthdgbgleklkaiaaDoor
open Go.RowKit
theorem RO (c:Nat) (w:World) :
  Calls Tryd.prog 39 #[.slice none 0 c] w fun e w'=>e = .returned (.slice none 0 0)∧w=w':=by
 have q:=fun (w:World) (a:Option Addr) (n c n' c':Nat)=>Lib.run_eql_slice_nil (P := Tryd.prog) w 24 5 a n c n' c' Tryd.underlying24
 go_enter Tryd.func39, Tryd.ntmps39
 go_wp2
 go_ret
 exact ⟨rfl,rfl⟩
theorem RP (ad:Addr) (n c:Nat) (xs:List Int) (w:World) (hsrc:Src w (some ad) n xs) (hn:n≤1099511627776) :
  Calls Tryd.prog 39 #[.slice (some ad) n c] w fun e w'=>∃ v,e = .returned v∧jQ w' w.heap.size v xs∧Below w.heap.size w w':=by
 have q:=fun (w:World) (a:Option Addr) (n c n' c':Nat)=>Lib.run_eql_slice_nil (P := Tryd.prog) w 24 5 a n c n' c' Tryd.underlying24
 obtain ⟨i0,hi,hz0,hz1,hz2⟩:=info_parts xR
 have hxl:=hsrc.len
 have hcs:(xs.map (Value.int .u8)).length=n * 1:=by simp [hxl]
 have hsr:∀ o,∀ j v,(xs.map (Value.int .u8))[j]? = some v→(w.alloc o).cell? (ad.add j)=some v:=by
  intro o j v hj
  rw [List.getElem?_map] at hj
  have hjl:j < xs.length:=by
   rcases Nat.lt_or_ge j xs.length with q|q
   ·exact q
   ·rw [List.getElem?_eq_none q] at hj;cases hj
  obtain ⟨a',he,hc⟩:=hsrc.cell j (by omega)
  cases he
  refine ((Kept.refl (fun _=>False) w).alloc o).lM (v:=v) ?_ id
  rw [hc]
  simp [hjl] at hj
  simp [List.getD,hjl,hj]
 have hone:∀ v∈xs.map (Value.int .u8),v.oneCell'=true:=by
  intro v hv
  obtain ⟨x,_,rfl⟩:=List.mem_map.1 hv
  rfl
 have hown0:(w.alloc (.cells #[] 5)).ownsRow w.heap.size 5 1 (.slice (some ⟨w.heap.size,0,none⟩) 0 0) 0 []:=World.ownsRow_made w #[] 0 (Nat.le_refl _) (by decide) rfl
 have IV:=Lib.hid hcs
 have ET:=Lib.hid hsr
 have HONE:=Lib.hid hone
 have HOWN:=Lib.hid hown0
 have iG:=Lib.hid hxl
 clear hcs hsr hone hown0 hxl
 go_enter Tryd.func39, Tryd.ntmps39
 go_wp2_with (at_builtin;refine wpList_append_own _ rfl _ _ 24 rfl w.heap.size 5 i0 (.int .u8 0) 1 1 Tryd.underlying24 hi hz0 hz1 hz2 rfl (by decide) _ _ _ rfl HOWN.out ad n _ (xs.map (Value.int .u8)) rfl IV.out (ET.out _) HONE.out ?_ ?_ ?_ ?_;rotate_right;intro v' w1 hown' hgrow hnil)
 ·go_ret
  refine ⟨v',rfl,jQ.JQ ?_ ?_,?_⟩
  ·rw [iG.out];simpa using hown'
  ·intro e
   have:=(hnil.1 e).1
   cases this
  ·exact ((Below.refl _ w).alloc (Nat.le_refl _) _).grown hgrow (by simp) (fun k e=>by cases e;exact Nat.le_refl _)
 ·unfold maxLen;omega
 ·omega
 ·simp
end Go.Proofs.YthdgbgleklkaiaaDoor
namespace Go.Proofs.YthdgbgleklkaiaaDoor
open Go.RowKit
theorem Jw {w:World} {sa:Option Addr} {n c:Nat} {xs:List Int} (h:Src w sa n xs):(convert 24 9 (.slice sa n c)).run Tryd.prog w = .ok (.string (strOfNums xs)) w:=by
 cases sa with
 | none =>
  have h0:n=0:=by
   rcases Nat.eq_zero_or_pos n with h0|h0
   ·exact h0
   ·obtain ⟨_,he,_⟩:=h.cell 0 h0
    cases he
  have hx:xs=[]:=List.eq_nil_of_length_eq_zero (h.len.trans h0)
  subst hx
  exact run_convert_bytes_nil w 24 5 Tryd.underlying24 Tryd.underlying5 n c 9 Tryd.underlying9
 | some a =>
  have hl:(loadCells a n).run Tryd.prog w = .ok (xs.map (Value.int .u8)).toArray w:=by
   have:=run_loadCells_list (P := Tryd.prog) w a (xs.map (Value.int .u8)) (jf h a rfl)
   simpa [h.len] using this
  rw [run_convert_bytes_string w 24 9 5 _ n c Tryd.underlying24 Tryd.underlying5 Tryd.underlying9, run_bytesToString w _ n c xs hl,foldl_push_bytes]
  simp [strOfNums,ByteArray.empty,ByteArray.emptyWithCapacity]
  rfl
theorem Src.take {w:World} {sa:Option Addr} {n:Nat} {xs:List Int} (h:Src w sa n xs) (m:Nat) (hm:m≤n):Src w sa m (xs.take m):=by
 refine ⟨by simp;have:=h.len;omega,fun i hi=>?_⟩
 obtain ⟨a,e,hc⟩:=h.cell i (by omega)
 refine ⟨a,e,?_⟩
 rw [hc]
 simp [List.getD,hi]
theorem Src.part {w:World} {ad:Addr} {n:Nat} {xs:List Int} (h:Src w (some ad) n xs) (o m:Nat) (hm:o+m≤n):Src w (some (ad.add o)) m ((xs.drop o).take m):=by
 refine ⟨by simp;have:=h.len;omega,fun i hi=>⟨_,rfl,?_⟩⟩
 obtain ⟨a,e,hc⟩:=h.cell (o+i) (by omega)
 cases e
 have:(ad.add o).add i=ad.add (o+i):=by
  obtain ⟨b,off,s⟩:=ad
  unfold Addr.add
  by_cases ho:o=0
  ·subst ho;simp
  ·by_cases hj:i=0
   ·subst hj;simp
   ·simp [ho,hj,Nat.add_assoc]
 rw [this,hc]
 simp [List.getD,hi,List.getElem?_drop]
end Go.Proofs.YthdgbgleklkaiaaDoor
namespace Go.Proofs.YthdgbgleklkaiaaDoor.Ch
open Go.RowKit
def rotl (x m n:Int):Int:=bits .or .u32 (IntKind.u32.wrap (x * m)) (x / n)
def add (x y:Int):Int:=(x+y) % 4294967296
def qa (s:List Int) (a b:Nat):List Int:=s.set a (add (s.getD a 0) (s.getD b 0))
def qx (s:List Int) (d a:Nat) (m n:Int):List Int:=s.set d (rotl (bits .xor .u32 (s.getD d 0) (s.getD a 0)) m n)
def quarter (s:List Int) (a b c d:Nat):List Int :=
 qx (qa (qx (qa (qx (qa (qx (qa s a b) d a 65536 65536) c d) b c 4096 1048576) a b) d a 256 16777216) c d) b c 128 33554432
theorem yU (s:List Int) (a b:Nat):(qa s a b).length=s.length:=by simp [qa]
theorem yT (s:List Int) (d a:Nat) (m n:Int):(qx s d a m n).length=s.length:=by simp [qx]
theorem eD (s:List Int) (a b c d:Nat):(quarter s a b c d).length=s.length:=by simp [quarter,yU,yT]
def word (b:List Int) (o:Nat):Int:=bits .or .u32 (bits .or .u32 (bits .or .u32 (b.getD o 0) (b.getD (o+1) 0 * 256)) (b.getD (o+2) 0 * 65536)) (b.getD (o+3) 0 * 16777216)
def begin (key:List Int) (counter:Int) (aK:List Int):List Int :=
 [1634760805,857760878,2036477234,1797285236] ++ ((List.range 8).map fun i=>word key (4 * i)) ++ [counter] ++ ((List.range 3).map fun i=>word aK (4 * i))
theorem R9 (key:List Int) (counter:Int) (aK:List Int):(begin key counter aK).length=16:=by simp [begin]
def Ii (s:List Int) (k:Nat):List Int:=(List.range k).foldl (fun s i=>quarter s i (4+i) (8+i) (12+i)) s
def diags (s:List Int) (k:Nat):List Int:=(List.range k).foldl (fun s i=>quarter s i (4+(i+1) % 4) (8+(i+2) % 4) (12+(i+3) % 4)) s
def doubles (s:List Int) (k:Nat):List Int:=(List.range k).foldl (fun s _=>diags (Ii s 4) 4) s
theorem RN (s:List Int) (k:Nat):Ii s (k+1)=quarter (Ii s k) k (4+k) (8+k) (12+k):=by simp [Ii,List.range_succ,List.foldl_append]
theorem LP (s:List Int) (k:Nat):diags s (k+1)=quarter (diags s k) k (4+(k+1) % 4) (8+(k+2) % 4) (12+(k+3) % 4):=by simp [diags,List.range_succ,List.foldl_append]
theorem uh (s:List Int) (k:Nat):doubles s (k+1)=diags (Ii (doubles s k) 4) 4:=by simp [doubles,List.range_succ,List.foldl_append]
theorem Zm (s:List Int) (k:Nat):(Ii s k).length=s.length:=by
 induction k with
 | zero=>rfl
 | succ k ih=>rw [RN,eD,ih]
theorem RD (s:List Int) (k:Nat):(diags s k).length=s.length:=by
 induction k with
 | zero=>rfl
 | succ k ih=>rw [LP,eD,ih]
theorem wN (s:List Int) (k:Nat):(doubles s k).length=s.length:=by
 induction k with
 | zero=>rfl
 | succ k ih=>rw [uh,RD,Zm,ih]
def fC (v s:List Int):List Int:=(List.range 64).map fun i=>add (v.getD (i / 4) 0) (s.getD (i / 4) 0) / 2 ^ (8 * (i % 4)) % 256
def block (key:List Int) (counter:Int) (aK:List Int):List Int:=fC (doubles (begin key counter aK) 10) (begin key counter aK)
theorem qA (key:List Int) (counter:Int) (aK:List Int):(block key counter aK).length=64:=by simp [block,fC]
def turn (key:List Int) (c:Int) (aK b:List Int):List Int:=b.mapIdx fun i x=>bits .xor .u8 x ((block key ((c+(i / 64:Nat)) % 4294967296) aK).getD (i % 64) 0)
theorem yx (key:List Int) (c:Int) (aK b:List Int):(turn key c aK b).length=b.length:=by simp [turn]
theorem aU {w:World} {g:Nat} {k:IntKind} {xs:List Int} {t:TypeId} {fr:Nat×Nat} (h:w.heap[g]? = some (.cells (arr k xs) t fr)) (i:Nat) (hi:i < xs.length):w.cell? ⟨g,i,none⟩=some (.int k (xs.getD i 0)):=(aG h i).trans (uw _ _ _ hi)
theorem bK {w:World} {g:Nat} {k:IntKind} {xs:List Int} {t:TypeId} (h:w.heap[g]? = some (.cells (arr k xs) t (0,0))) (i:Nat) (x:Int):(w.setCell ⟨g,i,none⟩ (.int k x)).heap[g]? = some (.cells (arr k (xs.set i x)) t (0,0)):=by
 rw [bC h]
 congr 2
 simp [arr,List.map_set]
end Go.Proofs.YthdgbgleklkaiaaDoor.Ch
namespace Go.Proofs.YthdgbgleklkaiaaDoor.Ch
open Go.RowKit
theorem rol_16 (x:Int) (w:World):Calls Tryd.prog 101 #[.int .u32 x, .int .u64 16] w fun e w'=>e = .returned (.int .u32 (rotl x 65536 65536))∧w=w':=by
 go_enter Tryd.func101, Tryd.ntmps101
 go_wp2
 go_ret
 exact ⟨rfl,rfl⟩
theorem rol_12 (x:Int) (w:World):Calls Tryd.prog 101 #[.int .u32 x, .int .u64 12] w fun e w'=>e = .returned (.int .u32 (rotl x 4096 1048576))∧w=w':=by
 go_enter Tryd.func101, Tryd.ntmps101
 go_wp2
 go_ret
 exact ⟨rfl,rfl⟩
theorem rol_8 (x:Int) (w:World):Calls Tryd.prog 101 #[.int .u32 x, .int .u64 8] w fun e w'=>e = .returned (.int .u32 (rotl x 256 16777216))∧w=w':=by
 go_enter Tryd.func101, Tryd.ntmps101
 go_wp2
 go_ret
 exact ⟨rfl,rfl⟩
theorem rol_7 (x:Int) (w:World):Calls Tryd.prog 101 #[.int .u32 x, .int .u64 7] w fun e w'=>e = .returned (.int .u32 (rotl x 128 33554432))∧w=w':=by
 go_enter Tryd.func101, Tryd.ntmps101
 go_wp2
 go_ret
 exact ⟨rfl,rfl⟩
theorem wI {P:Program} {f:FuncId} {args:Array Value} {w:World} {v:Value} (h:Calls P f args w fun e w'=>e = .returned v∧w=w'):Calls P f args w fun e w''=>e = .returned v∧w''=w:=h.mono fun _ _ h=>⟨h.1,h.2.symm⟩
theorem zl (p q m c:Nat) (b:List Int) (o:Nat) (w:World) (hb:bytes b) (hm:4≤m) (h0:w.cell? ⟨p,q,none⟩=some (.int .u8 (b.getD o 0))) (h1:w.cell? ⟨p,q+1,none⟩=some (.int .u8 (b.getD (o+1) 0))) (h2:w.cell? ⟨p,q+2,none⟩=some (.int .u8 (b.getD (o+2) 0))) (h3:w.cell? ⟨p,q+3,none⟩=some (.int .u8 (b.getD (o+3) 0))) :
  Calls Tryd.prog 97 #[.slice (some ⟨p,q,none⟩) m c] w fun e w'=>e = .returned (.int .u32 (word b o))∧∃ k,w'=w.drewN k:=by
 obtain ⟨b00,b01⟩:=bytes_at hb o
 obtain ⟨b10,b11⟩:=bytes_at hb (o+1)
 obtain ⟨b20,b21⟩:=bytes_at hb (o+2)
 obtain ⟨b30,b31⟩:=bytes_at hb (o+3)
 have hw:word b o=bits .or .u32 (bits .or .u32 (bits .or .u32 (b.getD o 0) (b.getD (o+1) 0 * 256)) (b.getD (o+2) 0 * 65536)) (b.getD (o+3) 0 * 16777216):=rfl
 have HW:=Lib.hid hw
 have m0:(0:Int) < m:=by omega
 have m1:(1:Int) < m:=by omega
 have m2:(2:Int) < m:=by omega
 have m3:(3:Int) < m:=by omega
 clear hw hb
 generalize b.getD o 0=x0 at h0 b00 b01 HW
 generalize b.getD (o+1) 0=x1 at h1 b10 b11 HW
 generalize b.getD (o+2) 0=x2 at h2 b20 b21 HW
 generalize b.getD (o+3) 0=x3 at h3 b30 b31 HW
 go_enter Tryd.func97, Tryd.ntmps97
 go_wp2_with fail
 go_quiet (fail)
 go_wp2_with fail
 go_ret
 exact ⟨by rw [HW.out];rfl,_,rfl⟩
end Go.Proofs.YthdgbgleklkaiaaDoor.Ch
namespace Go.Proofs.YthdgbgleklkaiaaDoor.Ch
open Go.RowKit
theorem DT (p:Nat) (s:List Int) (a b c d:Nat) (w:World) (hp:w.heap[p]? = some (.cells (arr .u32 s) 143 (0,0))) (hl:s.length=16) (ha:a < 16) (hb:b < 16) (hc:c < 16) (hd:d < 16) :
  Calls Tryd.prog 98 #[.pointer (some ⟨p,0,none⟩), .int .i64 (a:Int), .int .i64 (b:Int), .int .i64 (c:Int), .int .i64 (d:Int)] w fun e w'=>e = .returned (.tuple #[])∧w'.heap[p]? = some (.cells (arr .u32 (quarter s a b c d)) 143 (0,0))∧Kept (fun x=>x=p) w w':=by
 obtain ⟨qf,hqf⟩:∃ qf,qf=quarter s a b c d:=⟨_,rfl⟩
 have HQF:=Lib.hid hqf
 have ia:(a:Int) < 16:=by omega
 have ib:(b:Int) < 16:=by omega
 have ic:(c:Int) < 16:=by omega
 have id:(d:Int) < 16:=by omega
 have K0:=Lib.hid (Kept.refl (fun x=>x=p) w)
 have L0:=Lib.hid hl
 have H0:=Lib.hid hp
 rw [← hqf]
 clear hqf hl hp
 obtain ⟨w0,hw0⟩:∃ w0,w0=w:=⟨_,rfl⟩
 rw [← hw0] at K0 H0 ⊢
 obtain ⟨s0,hs0⟩:∃ s0,s0=s:=⟨_,rfl⟩
 rw [← hs0] at H0 L0
 have bN:=Lib.hid hs0
 have HW0:=Lib.hid hw0
 clear hs0 hw0
 go_enter Tryd.func98, Tryd.ntmps98
 obtain ⟨s1,hs1⟩:∃ t,t=qa s0 a b:=⟨_,rfl⟩
 have x0':=aU H0.out a (by rw [L0.out];exact ha)
 have y0':=aU H0.out b (by rw [L0.out];exact hb)
 have f0:=aC H0.out a
 have hn0:∀ v,v=add (s0.getD a 0) (s0.getD b 0)→(w0.setCell ⟨p,a,none⟩ (.int .u32 v)).heap[p]? = some (.cells (arr .u32 s1) 143 (0,0)):=by
  rintro v rfl
  rw [bK H0.out,hs1]
  rfl
 have L1:Hid (s1.length=16):=Lib.hid (by rw [hs1];simp only [yU];exact L0.out)
 have gY:=Lib.hid hs1
 have HN0:=Lib.hid hn0
 have KK0:=Lib.hid (fun v=>(K0.out.at a v).drew)
 clear hs1 hn0 H0 K0
 generalize s0.getD a 0=x0 at x0' HN0
 generalize s0.getD b 0=y0 at y0' HN0
 go_wp2_with fail
 refine wp_region_still_tail 15 (by kernel_rfl) (by kernel_rfl) ?_
 simp only [List.take_succ_cons,List.take_zero,List.drop_succ_cons,List.drop_zero]
 repeat still_step
 refine wpStill_nil ?_
 change wpList _ _ _ _ _ w0.drew
 go_wp2_with fail
 have H1:Hid ((w0.setCell ⟨p,a,none⟩ (.int .u32 ((x0+y0) % 4294967296))).drew.heap[p]? = some (.cells (arr .u32 s1) 143 (0,0))):=Lib.hid (HN0.out _ (by first|rfl|(unfold add;rfl)))
 have K1:=Lib.hid (KK0.out (.int .u32 ((x0+y0) % 4294967296)))
 clear HN0 KK0 x0' y0' f0
 generalize (w0.setCell ⟨p,a,none⟩ (.int .u32 ((x0+y0) % 4294967296))).drew=w1 at H1 K1 ⊢
 obtain ⟨s2,hs2⟩:∃ t,t=qx s1 d a 65536 65536:=⟨_,rfl⟩
 have x1':=aU H1.out d (by rw [L1.out];exact hd)
 have y1':=aU H1.out a (by rw [L1.out];exact ha)
 have f1:=aC H1.out d
 have hn1:∀ v,v=rotl (bits .xor .u32 (s1.getD d 0) (s1.getD a 0)) 65536 65536→(w1.setCell ⟨p,d,none⟩ (.int .u32 v)).heap[p]? = some (.cells (arr .u32 s2) 143 (0,0)):=by
  rintro v rfl
  rw [bK H1.out,hs2]
  rfl
 have L2:Hid (s2.length=16):=Lib.hid (by rw [hs2];simp only [yT];exact L1.out)
 have HS2:=Lib.hid hs2
 have HN1:=Lib.hid hn1
 have KK1:=Lib.hid (fun v=>(K1.out.at d v).drew)
 clear hs2 hn1 H1 K1
 generalize s1.getD d 0=x1 at x1' HN1
 generalize s1.getD a 0=y1 at y1' HN1
 go_wp2_with fail
 refine wp_region_still_tail 16 (by kernel_rfl) (by kernel_rfl) ?_
 simp only [List.take_succ_cons,List.take_zero,List.drop_succ_cons,List.drop_zero]
 repeat still_step
 (refine wpStill_step (fun K hK=>?_);go_simp;refine Exists.intro _ (And.intro (wI (rol_16 _ _)) ?_);refine hK _ ?_;clear hK K)
 repeat still_step
 refine wpStill_nil ?_
 change wpList _ _ _ _ _ w1.drew
 go_wp2_with fail
 have H2:Hid ((w1.setCell ⟨p,d,none⟩ (.int .u32 (rotl (bits .xor .u32 x1 y1) 65536 65536))).drew.heap[p]? = some (.cells (arr .u32 s2) 143 (0,0))):=Lib.hid (HN1.out _ (by first|rfl|(unfold add;rfl)))
 have K2:=Lib.hid (KK1.out (.int .u32 (rotl (bits .xor .u32 x1 y1) 65536 65536)))
 clear HN1 KK1 x1' y1' f1
 generalize (w1.setCell ⟨p,d,none⟩ (.int .u32 (rotl (bits .xor .u32 x1 y1) 65536 65536))).drew=w2 at H2 K2 ⊢
 obtain ⟨s3,hs3⟩:∃ t,t=qa s2 c d:=⟨_,rfl⟩
 have x2':=aU H2.out c (by rw [L2.out];exact hc)
 have y2':=aU H2.out d (by rw [L2.out];exact hd)
 have f2:=aC H2.out c
 have hn2:∀ v,v=add (s2.getD c 0) (s2.getD d 0)→(w2.setCell ⟨p,c,none⟩ (.int .u32 v)).heap[p]? = some (.cells (arr .u32 s3) 143 (0,0)):=by
  rintro v rfl
  rw [bK H2.out,hs3]
  rfl
 have L3:Hid (s3.length=16):=Lib.hid (by rw [hs3];simp only [yU];exact L2.out)
 have F3:=Lib.hid hs3
 have HN2:=Lib.hid hn2
 have KK2:=Lib.hid (fun v=>(K2.out.at c v).drew)
 clear hs3 hn2 H2 K2
 generalize s2.getD c 0=x2 at x2' HN2
 generalize s2.getD d 0=y2 at y2' HN2
 go_wp2_with fail
 refine wp_region_still_tail 15 (by kernel_rfl) (by kernel_rfl) ?_
 simp only [List.take_succ_cons,List.take_zero,List.drop_succ_cons,List.drop_zero]
 repeat still_step
 refine wpStill_nil ?_
 change wpList _ _ _ _ _ w2.drew
 go_wp2_with fail
 have H3:Hid ((w2.setCell ⟨p,c,none⟩ (.int .u32 ((x2+y2) % 4294967296))).drew.heap[p]? = some (.cells (arr .u32 s3) 143 (0,0))):=Lib.hid (HN2.out _ (by first|rfl|(unfold add;rfl)))
 have K3:=Lib.hid (KK2.out (.int .u32 ((x2+y2) % 4294967296)))
 clear HN2 KK2 x2' y2' f2
 generalize (w2.setCell ⟨p,c,none⟩ (.int .u32 ((x2+y2) % 4294967296))).drew=w3 at H3 K3 ⊢
 obtain ⟨s4,hs4⟩:∃ t,t=qx s3 b c 4096 1048576:=⟨_,rfl⟩
 have x3':=aU H3.out b (by rw [L3.out];exact hb)
 have y3':=aU H3.out c (by rw [L3.out];exact hc)
 have f3:=aC H3.out b
 have hn3:∀ v,v=rotl (bits .xor .u32 (s3.getD b 0) (s3.getD c 0)) 4096 1048576→(w3.setCell ⟨p,b,none⟩ (.int .u32 v)).heap[p]? = some (.cells (arr .u32 s4) 143 (0,0)):=by
  rintro v rfl
  rw [bK H3.out,hs4]
  rfl
 have L4:Hid (s4.length=16):=Lib.hid (by rw [hs4];simp only [yT];exact L3.out)
 have EU:=Lib.hid hs4
 have HN3:=Lib.hid hn3
 have KK3:=Lib.hid (fun v=>(K3.out.at b v).drew)
 clear hs4 hn3 H3 K3
 generalize s3.getD b 0=x3 at x3' HN3
 generalize s3.getD c 0=y3 at y3' HN3
 go_wp2_with fail
 refine wp_region_still_tail 16 (by kernel_rfl) (by kernel_rfl) ?_
 simp only [List.take_succ_cons,List.take_zero,List.drop_succ_cons,List.drop_zero]
 repeat still_step
 (refine wpStill_step (fun K hK=>?_);go_simp;refine Exists.intro _ (And.intro (wI (rol_12 _ _)) ?_);refine hK _ ?_;clear hK K)
 repeat still_step
 refine wpStill_nil ?_
 change wpList _ _ _ _ _ w3.drew
 go_wp2_with fail
 have H4:Hid ((w3.setCell ⟨p,b,none⟩ (.int .u32 (rotl (bits .xor .u32 x3 y3) 4096 1048576))).drew.heap[p]? = some (.cells (arr .u32 s4) 143 (0,0))):=Lib.hid (HN3.out _ (by first|rfl|(unfold add;rfl)))
 have K4:=Lib.hid (KK3.out (.int .u32 (rotl (bits .xor .u32 x3 y3) 4096 1048576)))
 clear HN3 KK3 x3' y3' f3
 generalize (w3.setCell ⟨p,b,none⟩ (.int .u32 (rotl (bits .xor .u32 x3 y3) 4096 1048576))).drew=w4 at H4 K4 ⊢
 obtain ⟨s5,hs5⟩:∃ t,t=qa s4 a b:=⟨_,rfl⟩
 have x4':=aU H4.out a (by rw [L4.out];exact ha)
 have y4':=aU H4.out b (by rw [L4.out];exact hb)
 have f4:=aC H4.out a
 have hn4:∀ v,v=add (s4.getD a 0) (s4.getD b 0)→(w4.setCell ⟨p,a,none⟩ (.int .u32 v)).heap[p]? = some (.cells (arr .u32 s5) 143 (0,0)):=by
  rintro v rfl
  rw [bK H4.out,hs5]
  rfl
 have L5:Hid (s5.length=16):=Lib.hid (by rw [hs5];simp only [yU];exact L4.out)
 have SS:=Lib.hid hs5
 have HN4:=Lib.hid hn4
 have KK4:=Lib.hid (fun v=>(K4.out.at a v).drew)
 clear hs5 hn4 H4 K4
 generalize s4.getD a 0=x4 at x4' HN4
 generalize s4.getD b 0=y4 at y4' HN4
 go_wp2_with fail
 refine wp_region_still_tail 15 (by kernel_rfl) (by kernel_rfl) ?_
 simp only [List.take_succ_cons,List.take_zero,List.drop_succ_cons,List.drop_zero]
 repeat still_step
 refine wpStill_nil ?_
 change wpList _ _ _ _ _ w4.drew
 go_wp2_with fail
 have H5:Hid ((w4.setCell ⟨p,a,none⟩ (.int .u32 ((x4+y4) % 4294967296))).drew.heap[p]? = some (.cells (arr .u32 s5) 143 (0,0))):=Lib.hid (HN4.out _ (by first|rfl|(unfold add;rfl)))
 have K5:=Lib.hid (KK4.out (.int .u32 ((x4+y4) % 4294967296)))
 clear HN4 KK4 x4' y4' f4
 generalize (w4.setCell ⟨p,a,none⟩ (.int .u32 ((x4+y4) % 4294967296))).drew=w5 at H5 K5 ⊢
 obtain ⟨s6,hs6⟩:∃ t,t=qx s5 d a 256 16777216:=⟨_,rfl⟩
 have x5':=aU H5.out d (by rw [L5.out];exact hd)
 have y5':=aU H5.out a (by rw [L5.out];exact ha)
 have f5:=aC H5.out d
 have hn5:∀ v,v=rotl (bits .xor .u32 (s5.getD d 0) (s5.getD a 0)) 256 16777216→(w5.setCell ⟨p,d,none⟩ (.int .u32 v)).heap[p]? = some (.cells (arr .u32 s6) 143 (0,0)):=by
  rintro v rfl
  rw [bK H5.out,hs6]
  rfl
 have L6:Hid (s6.length=16):=Lib.hid (by rw [hs6];simp only [yT];exact L5.out)
 have HS6:=Lib.hid hs6
 have HN5:=Lib.hid hn5
 have KK5:=Lib.hid (fun v=>(K5.out.at d v).drew)
 clear hs6 hn5 H5 K5
 generalize s5.getD d 0=x5 at x5' HN5
 generalize s5.getD a 0=y5 at y5' HN5
 go_wp2_with fail
 refine wp_region_still_tail 16 (by kernel_rfl) (by kernel_rfl) ?_
 simp only [List.take_succ_cons,List.take_zero,List.drop_succ_cons,List.drop_zero]
 repeat still_step
 (refine wpStill_step (fun K hK=>?_);go_simp;refine Exists.intro _ (And.intro (wI (rol_8 _ _)) ?_);refine hK _ ?_;clear hK K)
 repeat still_step
 refine wpStill_nil ?_
 change wpList _ _ _ _ _ w5.drew
 go_wp2_with fail
 have H6:Hid ((w5.setCell ⟨p,d,none⟩ (.int .u32 (rotl (bits .xor .u32 x5 y5) 256 16777216))).drew.heap[p]? = some (.cells (arr .u32 s6) 143 (0,0))):=Lib.hid (HN5.out _ (by first|rfl|(unfold add;rfl)))
 have K6:=Lib.hid (KK5.out (.int .u32 (rotl (bits .xor .u32 x5 y5) 256 16777216)))
 clear HN5 KK5 x5' y5' f5
 generalize (w5.setCell ⟨p,d,none⟩ (.int .u32 (rotl (bits .xor .u32 x5 y5) 256 16777216))).drew=w6 at H6 K6 ⊢
 obtain ⟨s7,hs7⟩:∃ t,t=qa s6 c d:=⟨_,rfl⟩
 have x6':=aU H6.out c (by rw [L6.out];exact hc)
 have y6':=aU H6.out d (by rw [L6.out];exact hd)
 have f6:=aC H6.out c
 have hn6:∀ v,v=add (s6.getD c 0) (s6.getD d 0)→(w6.setCell ⟨p,c,none⟩ (.int .u32 v)).heap[p]? = some (.cells (arr .u32 s7) 143 (0,0)):=by
  rintro v rfl
  rw [bK H6.out,hs7]
  rfl
 have L7:Hid (s7.length=16):=Lib.hid (by rw [hs7];simp only [yU];exact L6.out)
 have SQ:=Lib.hid hs7
 have HN6:=Lib.hid hn6
 have KK6:=Lib.hid (fun v=>(K6.out.at c v).drew)
 clear hs7 hn6 H6 K6
 generalize s6.getD c 0=x6 at x6' HN6
 generalize s6.getD d 0=y6 at y6' HN6
 go_wp2_with fail
 refine wp_region_still_tail 15 (by kernel_rfl) (by kernel_rfl) ?_
 simp only [List.take_succ_cons,List.take_zero,List.drop_succ_cons,List.drop_zero]
 repeat still_step
 refine wpStill_nil ?_
 change wpList _ _ _ _ _ w6.drew
 go_wp2_with fail
 have H7:Hid ((w6.setCell ⟨p,c,none⟩ (.int .u32 ((x6+y6) % 4294967296))).drew.heap[p]? = some (.cells (arr .u32 s7) 143 (0,0))):=Lib.hid (HN6.out _ (by first|rfl|(unfold add;rfl)))
 have K7:=Lib.hid (KK6.out (.int .u32 ((x6+y6) % 4294967296)))
 clear HN6 KK6 x6' y6' f6
 generalize (w6.setCell ⟨p,c,none⟩ (.int .u32 ((x6+y6) % 4294967296))).drew=w7 at H7 K7 ⊢
 obtain ⟨s8,hs8⟩:∃ t,t=qx s7 b c 128 33554432:=⟨_,rfl⟩
 have x7':=aU H7.out b (by rw [L7.out];exact hb)
 have y7':=aU H7.out c (by rw [L7.out];exact hc)
 have f7:=aC H7.out b
 have hn7:∀ v,v=rotl (bits .xor .u32 (s7.getD b 0) (s7.getD c 0)) 128 33554432→(w7.setCell ⟨p,b,none⟩ (.int .u32 v)).heap[p]? = some (.cells (arr .u32 s8) 143 (0,0)):=by
  rintro v rfl
  rw [bK H7.out,hs8]
  rfl
 have L8:Hid (s8.length=16):=Lib.hid (by rw [hs8];simp only [yT];exact L7.out)
 have Je:=Lib.hid hs8
 have HN7:=Lib.hid hn7
 have KK7:=Lib.hid (fun v=>(K7.out.at b v).drew)
 clear hs8 hn7 H7 K7
 generalize s7.getD b 0=x7 at x7' HN7
 generalize s7.getD c 0=y7 at y7' HN7
 go_wp2_with fail
 refine wp_region_still_tail 16 (by kernel_rfl) (by kernel_rfl) ?_
 simp only [List.take_succ_cons,List.take_zero,List.drop_succ_cons,List.drop_zero]
 repeat still_step
 (refine wpStill_step (fun K hK=>?_);go_simp;refine Exists.intro _ (And.intro (wI (rol_7 _ _)) ?_);refine hK _ ?_;clear hK K)
 repeat still_step
 refine wpStill_nil ?_
 change wpList _ _ _ _ _ w7.drew
 go_wp2_with fail
 have H8:Hid ((w7.setCell ⟨p,b,none⟩ (.int .u32 (rotl (bits .xor .u32 x7 y7) 128 33554432))).drew.heap[p]? = some (.cells (arr .u32 s8) 143 (0,0))):=Lib.hid (HN7.out _ (by first|rfl|(unfold add;rfl)))
 have K8:=Lib.hid (KK7.out (.int .u32 (rotl (bits .xor .u32 x7 y7) 128 33554432)))
 clear HN7 KK7 x7' y7' f7
 generalize (w7.setCell ⟨p,b,none⟩ (.int .u32 (rotl (bits .xor .u32 x7 y7) 128 33554432))).drew=w8 at H8 K8 ⊢
 go_end0
 have e:s8=qf:=by rw [HQF.out,Je.out,SQ.out,HS6.out,SS.out,EU.out,F3.out,HS2.out,gY.out,bN.out];rfl
 rw [e] at H8
 exact ⟨rfl,H8.out,K8.out⟩
end Go.Proofs.YthdgbgleklkaiaaDoor.Ch
