/- What a call keeps of memory: Arrays of integers by value: Long arrays. Condition: as each theorem says. -/
import Derived.BigQuiet
import Derived.Deep.Draws
import Derived.Deep.MidRow
import Derived.Deep.QuietTactic
import Derived.Laws.StructEq
import Derived.Lib.Hide
import Derived.Lib.MinMax
import Derived.Test.YthdgbgleklkaiaaGreatDoorChecked
import Derived.WalkKit

open Nat renaming le_refl→abC,lt_of_lt_of_le→abF
open List renaming length_cons→abD,getD→abE,getElem?_eq_getElem→abG,take_succ_eq_append_getElem→abL,take_set_of_le→abM,drop_set_of_lt→abN,length_map→abQ
open Array renaming toList_setIfInBounds→abK
set_option linter.unusedSimpArgs false
set_option linter.unusedVariables false
namespace Go.Proofs.YthdgbgleklkaiaaGreatDoor
open Go.RowKit
theorem sA {α:Type} {l:List α} {i:Nat} {a:α}:l.toArray.setIfInBounds i a=(l.set i a).toArray:=by simp
theorem sZ {α:Type} {x a:α} {l:List α}:(x :: l).set 0 a=a :: l:=rfl
theorem sS {α:Type} {x a:α} {l:List α} {n:Nat}:(x :: l).set (n+1) a=x :: l.set n a:=rfl
theorem sE {α:Type} {o:Option α} (h:o.isSome=true):∃ v,o=some v:=Option.isSome_iff_exists.1 h
theorem sI {α:Type} {a b:α} (h:some a=some b):b=a:=(Option.some.inj h).symm
theorem aS (s:Nat) {P:Program} {ops:Array Oper} {Q:Exit→Act→World→Prop} {op:Op} {t:TypeId} {p:String} {af:Array Edge} {g:Option (Nat×Bool)} {r:List Oper} {a:Act} {w:World} (h:wpList P ops Q (Oper.mk (some s) op t p af g :: r) a w):wpList P ops Q (Oper.mk (some s) op t p af g :: r) a w:=h
theorem aT (s:Nat) {x:Operand} {y:TypeId} {P:Program} {ops:Array Oper} {Q:Exit→Act→World→Prop} {t:TypeId} {p:String} {af:Array Edge} {g:Option (Nat×Bool)} {r:List Oper} {a:Act} {w:World} (h:wpList P ops Q (Oper.mk none (Op.store y (Operand.tmp s) x) t p af g :: r) a w):wpList P ops Q (Oper.mk none (Op.store y (Operand.tmp s) x) t p af g :: r) a w:=h
structure Kept (T:Nat→Prop) (w w':World):Prop where
 os:w'.os=w.os
 tape:w'.tape=w.tape
 output:w'.output=w.output
 size:w.heap.size≤w'.heap.size
 block:∀ k,k < w.heap.size→¬ T k→w'.heap[k]? = w.heap[k]?
theorem Kept.refl (T:Nat→Prop) (w:World):Kept T w w:=⟨rfl,rfl,rfl,abC _,fun _ _ _=>rfl⟩
theorem Kept.trans {T:Nat→Prop} {a b c:World} (h:Kept T a b) (k:Kept T b c):Kept T a c :=
 ⟨k.os.trans h.os,k.tape.trans h.tape,k.output.trans h.output,Nat.le_trans h.size k.size,
  fun i hi ht=>(k.block i (abF hi h.size) ht).trans (h.block i hi ht)⟩
theorem Kept.bS {T T':Nat→Prop} {a b c:World} (h:Kept T a b) (k:Kept T' b c) (ht:∀ i,i < a.heap.size→T' i→T i):Kept T a c :=
 ⟨k.os.trans h.os,k.tape.trans h.tape,k.output.trans h.output,Nat.le_trans h.size k.size,
  fun i hi hn=>(k.block i (abF hi h.size) (fun e=>hn (ht i hi e))).trans (h.block i hi hn)⟩
theorem Kept.mono {T T':Nat→Prop} {a b:World} (h:Kept T a b) (ht:∀ i,i < a.heap.size→T i→T' i):Kept T' a b :=
 ⟨h.os,h.tape,h.output,h.size,fun i hi hn=>h.block i hi (fun e=>hn (ht i hi e))⟩
theorem Kept.drewN {T:Nat→Prop} {a w:World} (h:Kept T a w) (n:Nat):Kept T a (w.drewN n):=⟨h.os,h.tape,h.output,h.size,h.block⟩
theorem Kept.drew {T:Nat→Prop} {a w:World} (h:Kept T a w):Kept T a w.drew:=⟨h.os,h.tape,h.output,h.size,h.block⟩
theorem Kept.alloc {T:Nat→Prop} {a w:World} (h:Kept T a w) (o:Obj):Kept T a (w.alloc o) :=
 h.trans ⟨rfl,rfl,rfl,by simp,fun k hk _=>Below.heap_alloc _ _ _ hk⟩
theorem Kept.setCell {T:Nat→Prop} {a w:World} (h:Kept T a w) {p:Addr} (hp:T p.block∨a.heap.size≤p.block) (u:Value):Kept T a (w.setCell p u) :=
 ⟨h.os,h.tape,h.output,by simpa [World.setCell] using h.size,fun k hk ht=>(Below.heap_setCell w p u k (by
  rintro rfl
  rcases hp with hp|hp
  ·exact ht hp
  ·omega)).trans (h.block k hk ht)⟩
theorem Kept.of_below {T:Nat→Prop} {a b:World} (h:Below a.heap.size a b):Kept T a b:=⟨h.os,h.tape,h.output,h.size,fun k hk _=>h.block k hk⟩
theorem Kept.toBelow {T:Nat→Prop} {B:Nat} {a b:World} (h:Kept T a b) (hB:B≤a.heap.size) (ht:∀ i,T i→B≤i):Below B a b :=
 ⟨h.os,h.tape,h.output,h.size,fun k hk=>h.block k (abF hk hB) (fun e=>absurd (ht k e) (by omega))⟩
theorem Kept.blk {T:Nat→Prop} {a b:World} (h:Kept T a b) {k:Nat} {o:Obj} (hk:a.heap[k]? = some o) (ht:¬ T k):b.heap[k]? = some o :=
 (h.block k (Array.getElem?_eq_some_iff.1 hk).1 ht).trans hk
theorem Below.blk {B:Nat} {a b:World} (h:Below B a b) {k:Nat} {o:Obj} (hk:a.heap[k]? = some o) (ht:k < B):b.heap[k]? = some o :=
 (h.block k ht).trans hk
theorem aV {w:World} {k:Nat} {o:Obj} (h:w.heap[k]? = some o):k < w.heap.size:=(Array.getElem?_eq_some_iff.1 h).1
theorem aQ {w:World} {b o:Nat} {c:Array Value} {t:TypeId} {fr:Nat×Nat} (h:w.heap[b]? = some (.cells c t fr)) (u:Value) :
  (w.setCell ⟨b,o,none⟩ u).heap[b]? = some (.cells (c.setIfInBounds o u) t fr):=by
 simp [World.setCell,Array.getElem?_modify,h]
theorem ay {w:World} {b k o:Nat} {x:Obj} (h:w.heap[k]? = some x) (u:Value) (hne:k≠b) :
  (w.setCell ⟨b,o,none⟩ u).heap[k]? = some x:=(Below.heap_setCell w ⟨b,o,none⟩ u k hne).trans h
theorem aY {w:World} {k:Nat} {x:Obj} (h:w.heap[k]? = some x) (o:Obj):(w.alloc o).heap[k]? = some x :=
 (Below.heap_alloc w o k (aV h)).trans h
theorem aH (w:World) (o:Obj):(w.alloc o).heap[w.heap.size]? = some o:=heap_alloc_new w o
theorem aF {w:World} {b:Nat} {c:Array Value} {t:TypeId} {fr:Nat×Nat} (h:w.heap[b]? = some (.cells c t fr)) (o:Nat):w.cell? ⟨b,o,none⟩=c[o]? := by
 simp [World.cell?, h]
theorem aC {w:World} {b:Nat} {c:Array Value} {t:TypeId} (h:w.heap[b]? = some (.cells c t (0,0))) (o:Nat):w.frozen? ⟨b,o,none⟩=false:=by
 simp [World.frozen?, h]
theorem Below.drewN {B:Nat} {a w:World} (h:RowKit.Below B a w) (n:Nat):RowKit.Below B a (w.drewN n):=⟨h.os,h.tape,h.output,h.size,h.block⟩
theorem eD {a b:World} (h:RowKit.Below a.heap.size a b) {x:Addr} {v:Value} (hx:a.cell? x=some v):b.cell? x=some v :=
 (h.cell (World.block_lt_of_cell? a _ hx)).trans hx
theorem Kept.at {p:Nat} {a w:World} (h:Kept (fun x=>x=p) a w) (o:Nat) (u:Value):Kept (fun x=>x=p) a (w.setCell ⟨p,o,none⟩ u):=h.setCell (p:=⟨p,o,none⟩) (.inl rfl) u
end Go.Proofs.YthdgbgleklkaiaaGreatDoor
namespace Go.Proofs.YthdgbgleklkaiaaGreatDoor
open Go.RowKit
def arr (k:IntKind) (xs:List Int):Array Value:=(xs.map (Value.int k)).toArray
theorem aD (k:IntKind) (xs:List Int):(arr k xs).size=xs.length:=by simp [arr]
theorem uq (k:IntKind) (xs:List Int) (i:Nat) (h:i < xs.length):(arr k xs)[i]? = some (.int k (xs.getD i 0)):=by simp [arr,abE,h]
theorem qR:∀ (xs ys:List Int),xs.length=ys.length→((List.range xs.length).all fun i=>xs.getD i 0 == ys.getD i 0)=(xs == ys)
 | [],[],_=>rfl
 | x :: xs,y :: ys,h=>by
  have ih:=qR xs ys (by simpa using h)
  rw [abD,List.range_succ_eq_map,List.all_cons,List.all_map]
  simp only [List.getD_cons_zero,Function.comp_def,List.getD_cons_succ,ih]
  simp [List.cons_beq_cons]
 | [],_ :: _,h=>by simp at h
 | _ :: _,[],h=>by simp at h
section
variable {P:Program} (w:World)
theorem fO (d:Nat) (t e:TypeId) (n:Nat) (k k':IntKind) (ht:P.underlying t=some (.array n e)) (he:P.underlying e=some (.int k')) (hsz:∀ w,(sizeOf e).run P w = .ok 1 w)
  (xs ys:List Int) (hx:xs.length=n) (hy:ys.length=n) :
  (Op.equalIn (d+2) t (.agg (arr k xs)) (.agg (arr k ys))).run P w = .ok (xs == ys) w:=by
 rw [← qR xs ys (hx.trans hy.symm),hx,List.range_eq_range',Op.equalIn]
 simp only [Sem.run_bind,run_underlying ht,Result.andThen_ok,hsz,Std.Legacy.Range.forIn_eq_forIn_range',Std.Legacy.Range.size,Nat.sub_zero,Nat.add_sub_cancel,Nat.div_one]
 have hl:∀ i∈List.range' 0 n 1,i < n:=fun i hi=>by simpa using (List.mem_range'_1.1 hi).2
 generalize List.range' 0 n 1=l at hl ⊢
 induction l with
 | nil=>simp
 | cons i l ih =>
  have hi:i < n:=hl i (by simp)
  have px:(part e (arr k xs) (i * 1)).run P w = .ok (.int k (xs.getD i 0)) w:=by
   simp [part,isAgg,run_underlying he,arr,abE,abG (show i < xs.length by omega)]
  have py:(part e (arr k ys) (i * 1)).run P w = .ok (.int k (ys.getD i 0)) w:=by
   simp [part,isAgg,run_underlying he,arr,abE,abG (show i < ys.length by omega)]
  have pe:(Op.equalIn (d+1) e (.int k (xs.getD i 0)) (.int k (ys.getD i 0))).run P w = .ok (xs.getD i 0 == ys.getD i 0) w :=
   run_equalIn_int w d e k k' _ _ he
  simp only [List.forIn_cons,Sem.run_bind,px,py,pe,Result.andThen_ok,List.all_cons]
  cases hb:(xs.getD i 0 == ys.getD i 0)
  ·simp
  ·simp only [Bool.not_true,Bool.false_eq_true,if_false,Sem.run_pure,Result.andThen_ok,Bool.true_and]
   exact ih fun j hj=>hl j (by simp [hj])
theorem wR (t e:TypeId) (n:Nat) (k k':IntKind) (ht:P.underlying t=some (.array n e)) (he:P.underlying e=some (.int k')) (hsz:∀ w,(sizeOf e).run P w = .ok 1 w)
  (xs ys:List Int) (hx:xs.length=n) (hy:ys.length=n) :
  (binOp .eql t (.agg (arr k xs)) (.agg (arr k ys))).run P w = .ok (.bool (xs == ys)) w:=by
 rw [run_eql_struct,fO w 9998 t e n k k' ht he hsz xs ys hx hy]
 rfl
theorem IE (t e:TypeId) (n:Nat) (k k':IntKind) (ht:P.underlying t=some (.array n e)) (he:P.underlying e=some (.int k')) (hsz:∀ w,(sizeOf e).run P w = .ok 1 w)
  (xs ys:List Int) (hx:xs.length=n) (hy:ys.length=n) :
  (binOp .neq t (.agg (arr k xs)) (.agg (arr k ys))).run P w = .ok (.bool (!(xs == ys))) w:=by
 rw [run_neq_struct,fO w 9998 t e n k k' ht he hsz xs ys hx hy]
 rfl
end
theorem iD {P:Program} {ops:Array Oper} {rest:List Oper} {o:Oper} {a:Act} {w:World} {Q:Exit→Act→World→Prop} (hgd:Region.wanted o (yielded ops a.tmps)=true) (t ty e:TypeId) (x y:Operand) (ho:o.op = .binOp .eql t x y ty) (n:Nat) (k k':IntKind)
  (ht:P.underlying t=some (.array n e)) (he:P.underlying e=some (.int k')) (hsz:∀ w,(sizeOf e).run P w = .ok 1 w) (hm:P.eqGuardType P.depth t=false)
  (xs ys:List Int) (hx:a.eval x = .agg (arr k xs)) (hy:a.eval y = .agg (arr k ys)) (lx:xs.length=n) (ly:ys.length=n) (b:Bool) (hb:(xs == ys)=b)
  (h:wpList P ops Q rest (a.put o.dst (.bool b)) w):wpList P ops Q (o :: rest) a w:=by
 unfold wpList
 rw [if_pos hgd]
 left
 unfold Oper.wp
 simp only [execOp,ho,hx,hy,Sem.run_bind,run_eqGuard_agg w .eql t x y _ _ hm,Result.andThen_ok,wR w t e n k k' ht he hsz xs ys lx ly,hb]
 exact h
theorem wpList_build {P:Program} {ops:Array Oper} {rest:List Oper} {o:Oper} {a:Act} {w:World} {Q:Exit→Act→World→Prop} (hgd:Region.wanted o (yielded ops a.tmps)=true) (t:TypeId) (ps:Array (Nat×Operand)) (ho:o.op = .build t ps)
  (vs:Array (Nat×Value)) (hvs:ps.toList.map (fun p=>(p.1,a.eval p.2))=vs.toList) (v:Value) (hrun:(Instr.build t vs).run P w = .ok v w) (h:wpList P ops Q rest (a.put o.dst v) w):wpList P ops Q (o :: rest) a w:=by
 unfold wpList
 rw [if_pos hgd]
 left
 unfold Oper.wp
 have hv:ps.map (fun p=>(p.1,a.eval p.2))=vs:=by apply Array.toList_inj.1;rw [Array.toList_map];exact hvs
 simp only [execOp,ho,hv,Sem.run_bind,hrun,Result.andThen_ok]
 exact h
theorem jR {T:Nat→Prop} {a:World} (b:Nat):∀ (vs:List Value) (o:Nat) (w:World),Kept T a w→(T b∨a.heap.size≤b)→Kept T a (w.setCells b o vs)
 | [],_,_,h,_=>h
 | v :: vs,o,_,h,hb=>jR b vs (o+1) _ (h.setCell (p:=⟨b,o,none⟩) hb v) hb
theorem kP (b:Nat) (t:TypeId) (fr:Nat×Nat):∀ (vs:List Value) (o:Nat) (w:World) (c:Array Value),w.heap[b]? = some (.cells c t fr)→o+vs.length≤c.size →
  (w.setCells b o vs).heap[b]? = some (.cells (c.toList.take o ++ vs ++ c.toList.drop (o+vs.length)).toArray t fr)
 | [],o,_,c,h,_=>by
  rw [World.setCells,h]
  simp
 | v :: vs,o,_,c,h,hl=>by
  rw [World.setCells,kP b t fr vs (o+1) _ (c.setIfInBounds o v) (aQ h v) (by simp at hl ⊢; omega)]
  simp only [abD] at hl
  have hlen:o < c.toList.length:=by simp;omega
  simp only [abK,abD]
  rw [abL (by simpa using hlen),abM (by omega),abN (by omega)]
  simp [Nat.add_assoc,Nat.add_comm 1]
theorem Jy:∀ (l:List Value) (cs:Array Value) (off m:Nat),off+m+l.length≤cs.size →
  ((l.zipIdx m).foldl (fun (cs:Array Value) (x:Value×Nat)=>cs.setIfInBounds (off+x.2) x.1) cs).toList=cs.toList.take (off+m) ++ l ++ cs.toList.drop (off+m+l.length)
 | [],cs,off,m,_=>by simp
 | v :: l,cs,off,m,h=>by
  rw [List.zipIdx_cons,List.foldl_cons,Jy l _ off (m+1) (by simp at h ⊢; omega)]
  simp only [abK,abD]
  simp only [abD] at h
  have hlen:off+m < cs.toList.length:=by simp;omega
  rw [show off+(m+1)=(off+m)+1 by omega,abL (by simpa using hlen),abM (by omega),abN (by omega)]
  simp [Nat.add_assoc,Nat.add_comm 1]
theorem DN (place:Nat→Option (Nat×Nat)) (cells:Array Value) (i:Nat) (v:Value) (rest:List (Nat×Value)) (off:Nat) (hp:place i=some (off,v.cells.size)) (hsz:off+v.cells.size≤cells.size) :
  Instr.fill place cells ((i,v) :: rest)=Instr.fill place (cells.toList.take off ++ v.cells.toList ++ cells.toList.drop (off+v.cells.size)).toArray rest:=by
 rw [Instr.fill,hp]
 simp only [ne_eq,not_true_eq_false,decide_false,Bool.false_or,decide_eq_true_eq,gt_iff_lt]
 rw [if_neg (by omega)]
 congr 1
 apply Array.toList_inj.1
 have:=Jy v.cells.toList cells off 0 (by simpa using hsz)
 simp only [Nat.add_zero,Array.length_toList] at this
 rw [← this,← Array.foldl_toList,Array.toList_zipIdx]
end Go.Proofs.YthdgbgleklkaiaaGreatDoor
namespace Go.Proofs.YthdgbgleklkaiaaGreatDoor
open Go.RowKit
theorem bN (k:IntKind) (xs:List Int):(arr k xs).toList=xs.map (Value.int k):=rfl
theorem ak (k:IntKind) (xs:List Int):(arr k xs).all (·.oneCell')=true :=
 all_oneCell_toArray (by intro v hv;obtain ⟨y,_,rfl⟩:=List.mem_map.1 hv;rfl)
section
variable {P:Program}
theorem ah {ops:Array Oper} {rest:List Oper} {o:Oper} {a:Act} {w:World} {Q:Exit→Act→World→Prop} (hgd:o.guard=none) (t:TypeId) (ho:o.op = .alloc t)
  (z:Array Value) (hz:(zeroValue t).run P w = .ok (.agg z) w) (h:wpList P ops Q rest (a.put o.dst (.pointer (some ⟨w.heap.size,0,none⟩))) (w.alloc (.cells z t))):wpList P ops Q (o :: rest) a w:=by
 refine wpList_plain hgd fun K hK=>?_
 unfold Oper.wp execOp
 simp only [ho,Instr.alloc,Sem.run_bind,hz,Result.andThen_ok]
 exact hK _ _ h
theorem dD {ops:Array Oper} {rest:List Oper} {o:Oper} {a:Act} {w:World} {Q:Exit→Act→World→Prop} (hgd:o.guard=none) (ty:TypeId) (x y:Operand) (ho:o.op = .store ty x y)
  (g off:Nat) (cs ds:Array Value) (t:TypeId) (hb:w.heap[g]? = some (.cells cs t (0,0))) (hx:a.eval x = .pointer (some ⟨g,off,none⟩)) (hy:a.eval y = .agg ds)
  (hs:off+ds.size≤cs.size) (hi:(P.info? ty).map (·.size)=some ds.size) (h1:ds.all (·.oneCell')=true)
  (h:∀ w',w'.heap[g]? = some (.cells (cs.toList.take off ++ ds.toList ++ cs.toList.drop (off+ds.size)).toArray t (0,0))→Kept (fun i=>i=g) w w'→w'.heap.size=w.heap.size→wpList P ops Q rest (a.put o.dst undef) w') :
  wpList P ops Q (o :: rest) a w:=by
 refine wpList_store_mid hgd ty x y ho g off ds hx hy (fun j hj=>?_) hi h1 (h _ ?_ ?_ ?_)
 ·rw [aF hb]
  exact ⟨by rw [Array.getElem?_eq_getElem (by omega)];rfl,aC hb _⟩
 ·rw [kP _ _ _ _ _ _ _ hb (by simpa using hs)]
  simp
 ·exact jR g _ _ _ (Kept.refl _ _) (.inl rfl)
 ·have:∀ (vs:List Value) (o:Nat) (w:World),(w.setCells g o vs).heap.size=w.heap.size:=by
   intro vs
   induction vs with
   | nil=>intro o w;rfl
   | cons v vs ih=>intro o w;rw [World.setCells,ih];simp [World.setCell]
  exact this _ _ _
theorem au {ops:Array Oper} {rest:List Oper} {o:Oper} {a:Act} {w:World} {Q:Exit→Act→World→Prop} (hgd:o.guard=none) (ty:TypeId) (x y:Operand) (ho:o.op = .store ty x y)
  (g:Nat) (cs ds:Array Value) (t:TypeId) (hb:w.heap[g]? = some (.cells cs t (0,0))) (hx:a.eval x = .pointer (some ⟨g,0,none⟩)) (hy:a.eval y = .agg ds)
  (hs:ds.size=cs.size) (hi:(P.info? ty).map (·.size)=some ds.size) (h1:ds.all (·.oneCell')=true)
  (h:∀ w',w'.heap[g]? = some (.cells ds t (0,0))→Kept (fun i=>i=g) w w'→w'.heap.size=w.heap.size→wpList P ops Q rest (a.put o.dst undef) w') :
  wpList P ops Q (o :: rest) a w:=by
 refine dD hgd ty x y ho g 0 cs ds t hb hx hy (by omega) hi h1 fun w' h2 h3 h4=>h w' ?_ h3 h4
 rw [h2]
 congr 2
 have:cs.toList.drop ds.size=[]:=List.drop_eq_nil_of_le (by simp [hs])
 simp [this]
theorem aO {w:World} {g:Nat} {cs:Array Value} {t:TypeId} {fr:Nat×Nat} (hb:w.heap[g]? = some (.cells cs t fr)) (off:Nat) (xs:List Value) (hx:(cs.toList.drop off).take xs.length=xs):w.rangeAt g off xs:=by
 intro j v hj
 rw [aF hb]
 have hl:j < xs.length:=(List.getElem?_eq_some_iff.1 hj).1
 have:=congrArg (fun l=>l[j]?) hx
 simp only [List.getElem?_take,hl,if_true,List.getElem?_drop,hj] at this
 simpa using this
theorem aB {ops:Array Oper} {rest:List Oper} {o:Oper} {a:Act} {w:World} {Q:Exit→Act→World→Prop} (hgd:o.guard=none) (ty:TypeId) (x:Operand) (ho:o.op = .load ty x)
  (g off:Nat) (cs:Array Value) (t:TypeId) (fr:Nat×Nat) (d:TypeDesc) (hb:w.heap[g]? = some (.cells cs t fr)) (hx:a.eval x = .pointer (some ⟨g,off,none⟩)) (k:IntKind) (xs:List Int)
  (hp:(cs.toList.drop off).take xs.length=xs.map (Value.int k)) (hu:P.underlying ty=some d) (hd:d.isRow=true) (hi:(P.info? ty).map (·.size)=some xs.length)
  (h:wpList P ops Q rest (a.put o.dst (.agg (arr k xs))) w):wpList P ops Q (o :: rest) a w :=
 wpList_load_mid hgd ty x ho g off hx (xs.map (Value.int k)) d (aO hb off _ (by rw [abQ];exact hp)) hu hd (by rw [abQ];exact hi) h
theorem Cr (w:World) (t e:TypeId) (n:Nat) (k k' ik:IntKind) (ht:P.underlying t=some (.array n e)) (he:P.underlying e=some (.int k')) (hsz:∀ w,(sizeOf e).run P w = .ok 1 w)
  (xs:List Int) (hx:xs.length=n) (j:Nat) (hj:j < n):(Instr.index t (.agg (arr k xs)) (.int ik j)).run P w = .ok (.int k (xs.getD j 0)) w:=by
 simp only [Instr.index,asIntOf,Sem.run_bind,Sem.run_pure,Result.andThen_ok,run_underlying ht]
 rw [if_pos (by omega)]
 simp only [Sem.run_bind,hsz,Result.andThen_ok,Int.toNat_natCast,Nat.mul_one]
 simp [part,isAgg,run_underlying he,arr,abE,abG (show j < xs.length by omega)]
end
end Go.Proofs.YthdgbgleklkaiaaGreatDoor
namespace Go.Proofs.YthdgbgleklkaiaaGreatDoor
open Go.RowKit
theorem aN {P:Program} {fn:Func} {p u:Tmp} {ty:TypeId} (h:fn.results = #[.cell p ty, .tmp u]) (tmps:Array Value) (w:World) (g:Nat) (t:TypeId) (cs:Array Value) (fr:Nat×Nat) (d:TypeDesc) (v:Value)
  (hp:tmps.getD p undef = .pointer (some ⟨g,0,none⟩)) (hg:w.heap[g]? = some (.cells cs t fr))
  (hu:P.underlying ty=some d) (hd:(match d with | .struct _ | .array _ _=>true|_=>false)=true) (hi:(P.info? ty).map (·.size)=some cs.size) (hv:tmps.getD u undef=v) :
  (results fn tmps).run P w = .ok (.tuple #[.agg cs,v]) w:=by
 rw [results_cell_tmp h,hp,hv]
 simp only [asAddr,Sem.run_pure,Result.andThen_ok,run_loadVar_row w g t ty cs fr d hg hu hd hi]
theorem aj (k:IntKind) (xs:List Int):((arr k xs).toList.drop 0).take xs.length=xs.map (Value.int k):=by rw [List.drop_zero,bN,List.take_of_length_le (by simp)]
theorem cB {w:World} {g:Nat} {k:IntKind} {xs:List Int} {t:TypeId} {fr:Nat×Nat} (h:w.heap[g]? = some (.cells (arr k xs) t fr)) (i:Nat) (hi:i < xs.length):w.cell? ⟨g,i,none⟩=some (.int k (xs.getD i 0)):=(aF h i).trans (uq _ _ _ hi)
theorem bq (k:IntKind) (xs:List Int) (i:Nat) (x:Int):(arr k xs).setIfInBounds i (.int k x)=arr k (xs.set i x):=by simp [arr,List.map_set]
structure B2 (w wr:World) (c0 c1:Array Value) (t0 t1:TypeId):Prop where
 b0:wr.heap[w.heap.size]? = some (.cells c0 t0 (0,0))
 b1:wr.heap[w.heap.size+1]? = some (.cells c1 t1 (0,0))
 below:Below w.heap.size w wr
theorem B2.start (w:World) (c0 c1:Array Value) (t0 t1:TypeId):B2 w ((w.alloc (.cells c0 t0)).alloc (.cells c1 t1)) c0 c1 t0 t1:=by
 have e1:∀ o0:Obj,(w.alloc o0).heap.size=w.heap.size+1:=by simp
 refine ⟨?_,?_,(((Below.refl _ w).alloc (by exact abC _) _).alloc (by rw [e1];omega) _)⟩
 ·exact aY (aH _ _) _
 ·rw [← e1 (.cells c0 t0)]
  exact aH _ _
theorem B2.drewN {w wr:World} {c0 c1:Array Value} {t0 t1:TypeId} (h:B2 w wr c0 c1 t0 t1) (k:Nat):B2 w (wr.drewN k) c0 c1 t0 t1:=⟨h.b0,h.b1,Go.Proofs.YthdgbgleklkaiaaGreatDoor.Below.drewN h.below k⟩
theorem B2.drew {w wr:World} {c0 c1:Array Value} {t0 t1:TypeId} (h:B2 w wr c0 c1 t0 t1):B2 w wr.drew c0 c1 t0 t1:=⟨h.b0,h.b1,⟨h.below.os,h.below.tape,h.below.output,h.below.size,h.below.block⟩⟩
theorem B2.after {w wr w':World} {c0 c1:Array Value} {t0 t1:TypeId} (h:B2 w wr c0 c1 t0 t1) (b:Below wr.heap.size wr w'):B2 w w' c0 c1 t0 t1:=⟨Below.blk b h.b0 (aV h.b0),Below.blk b h.b1 (aV h.b1),h.below.trans (b.mono h.below.size)⟩
theorem B2.alloc {w wr:World} {c0 c1:Array Value} {t0 t1:TypeId} (h:B2 w wr c0 c1 t0 t1) (o:Obj):B2 w (wr.alloc o) c0 c1 t0 t1:=h.after ((Below.refl _ wr).alloc (abC _) o)
theorem B2.set0 {w wr:World} {c0 c1:Array Value} {t0 t1:TypeId} (h:B2 w wr c0 c1 t0 t1) (i:Nat) (v:Value):B2 w (wr.setCell ⟨w.heap.size,i,none⟩ v) (c0.setIfInBounds i v) c1 t0 t1:=⟨aQ h.b0 v,ay h.b1 _ (by omega),h.below.setCell (p:=⟨w.heap.size,i,none⟩) (by simp) _⟩
theorem B2.put0 {w wr w':World} {c0 c1 d:Array Value} {t0 t1:TypeId} (h:B2 w wr c0 c1 t0 t1) (k:Kept (fun x=>x=w.heap.size) wr w') (hd:w'.heap[w.heap.size]? = some (.cells d t0 (0,0))):B2 w w' d c1 t0 t1:=⟨hd,k.blk h.b1 (by omega),h.below.trans (k.toBelow h.below.size (by rintro i rfl;omega))⟩
theorem B2.IL {w wr w':World} {c0 c1 d:Array Value} {t0 t1:TypeId} (h:B2 w wr c0 c1 t0 t1) (k:Kept (fun x=>x=w.heap.size+1) wr w') (hd:w'.heap[w.heap.size+1]? = some (.cells d t1 (0,0))):B2 w w' c0 d t0 t1:=⟨k.blk h.b0 (by omega),hd,h.below.trans (k.toBelow h.below.size (by rintro i rfl;omega))⟩
theorem B2.far {w wr:World} {c0 c1:Array Value} {t0 t1:TypeId} (h:B2 w wr c0 c1 t0 t1) (g i:Nat) (v:Value) (hg:w.heap.size+1 < g):B2 w (wr.setCell ⟨g,i,none⟩ v) c0 c1 t0 t1:=⟨ay h.b0 _ (by omega),ay h.b1 _ (by omega),h.below.setCell (p:=⟨g,i,none⟩) (by simp;omega) _⟩
theorem B2.TT {w wr w':World} {c0 c1:Array Value} {t0 t1:TypeId} {T:Nat→Prop} (h:B2 w wr c0 c1 t0 t1) (k:Kept T wr w') (hT:∀ i,T i→w.heap.size+1 < i):B2 w w' c0 c1 t0 t1:=⟨k.blk h.b0 (fun e=>by have:=hT _ e;omega),k.blk h.b1 (fun e=>by have:=hT _ e;omega),h.below.trans (k.toBelow h.below.size (fun i hi=>by have:=hT i hi;omega))⟩
structure B3 (w wr:World) (c0 c1 c2:Array Value) (t0 t1 t2:TypeId):Prop where
 b0:wr.heap[w.heap.size]? = some (.cells c0 t0 (0,0))
 b1:wr.heap[w.heap.size+1]? = some (.cells c1 t1 (0,0))
 b2:wr.heap[w.heap.size+1+1]? = some (.cells c2 t2 (0,0))
 below:Below w.heap.size w wr
theorem B3.start (w:World) (c0 c1 c2:Array Value) (t0 t1 t2:TypeId):B3 w (((w.alloc (.cells c0 t0)).alloc (.cells c1 t1)).alloc (.cells c2 t2)) c0 c1 c2 t0 t1 t2:=by
 have e1:∀ o0:Obj,(w.alloc o0).heap.size=w.heap.size+1:=by simp
 have e2:∀ o0 o1:Obj,((w.alloc o0).alloc o1).heap.size=w.heap.size+1+1:=by simp
 refine ⟨?_,?_,?_,((((Below.refl _ w).alloc (by exact abC _) _).alloc (by rw [e1];omega) _).alloc (by rw [e2];omega) _)⟩
 ·exact aY (aY (aH _ _) _) _
 ·rw [← e1 (.cells c0 t0)]
  exact aY (aH _ _) _
 ·rw [← e2 (.cells c0 t0) (.cells c1 t1)]
  exact aH _ _
theorem B3.drewN {w wr:World} {c0 c1 c2:Array Value} {t0 t1 t2:TypeId} (h:B3 w wr c0 c1 c2 t0 t1 t2) (k:Nat):B3 w (wr.drewN k) c0 c1 c2 t0 t1 t2:=⟨h.b0,h.b1,h.b2,Go.Proofs.YthdgbgleklkaiaaGreatDoor.Below.drewN h.below k⟩
theorem B3.drew {w wr:World} {c0 c1 c2:Array Value} {t0 t1 t2:TypeId} (h:B3 w wr c0 c1 c2 t0 t1 t2):B3 w wr.drew c0 c1 c2 t0 t1 t2:=⟨h.b0,h.b1,h.b2,⟨h.below.os,h.below.tape,h.below.output,h.below.size,h.below.block⟩⟩
theorem B3.after {w wr w':World} {c0 c1 c2:Array Value} {t0 t1 t2:TypeId} (h:B3 w wr c0 c1 c2 t0 t1 t2) (b:Below wr.heap.size wr w'):B3 w w' c0 c1 c2 t0 t1 t2:=⟨Below.blk b h.b0 (aV h.b0),Below.blk b h.b1 (aV h.b1),Below.blk b h.b2 (aV h.b2),h.below.trans (b.mono h.below.size)⟩
theorem B3.alloc {w wr:World} {c0 c1 c2:Array Value} {t0 t1 t2:TypeId} (h:B3 w wr c0 c1 c2 t0 t1 t2) (o:Obj):B3 w (wr.alloc o) c0 c1 c2 t0 t1 t2:=h.after ((Below.refl _ wr).alloc (abC _) o)
theorem B3.set0 {w wr:World} {c0 c1 c2:Array Value} {t0 t1 t2:TypeId} (h:B3 w wr c0 c1 c2 t0 t1 t2) (i:Nat) (v:Value):B3 w (wr.setCell ⟨w.heap.size,i,none⟩ v) (c0.setIfInBounds i v) c1 c2 t0 t1 t2:=⟨aQ h.b0 v,ay h.b1 _ (by omega),ay h.b2 _ (by omega),h.below.setCell (p:=⟨w.heap.size,i,none⟩) (by simp) _⟩
theorem B3.put0 {w wr w':World} {c0 c1 c2 d:Array Value} {t0 t1 t2:TypeId} (h:B3 w wr c0 c1 c2 t0 t1 t2) (k:Kept (fun x=>x=w.heap.size) wr w') (hd:w'.heap[w.heap.size]? = some (.cells d t0 (0,0))):B3 w w' d c1 c2 t0 t1 t2:=⟨hd,k.blk h.b1 (by omega),k.blk h.b2 (by omega),h.below.trans (k.toBelow h.below.size (by rintro i rfl;omega))⟩
theorem B3.IL {w wr w':World} {c0 c1 c2 d:Array Value} {t0 t1 t2:TypeId} (h:B3 w wr c0 c1 c2 t0 t1 t2) (k:Kept (fun x=>x=w.heap.size+1) wr w') (hd:w'.heap[w.heap.size+1]? = some (.cells d t1 (0,0))):B3 w w' c0 d c2 t0 t1 t2:=⟨k.blk h.b0 (by omega),hd,k.blk h.b2 (by omega),h.below.trans (k.toBelow h.below.size (by rintro i rfl;omega))⟩
theorem B3.set2 {w wr:World} {c0 c1 c2:Array Value} {t0 t1 t2:TypeId} (h:B3 w wr c0 c1 c2 t0 t1 t2) (i:Nat) (v:Value):B3 w (wr.setCell ⟨w.heap.size+1+1,i,none⟩ v) c0 c1 (c2.setIfInBounds i v) t0 t1 t2:=⟨ay h.b0 _ (by omega),ay h.b1 _ (by omega),aQ h.b2 v,h.below.setCell (p:=⟨w.heap.size+1+1,i,none⟩) (by simp;omega) _⟩
theorem B3.put2 {w wr w':World} {c0 c1 c2 d:Array Value} {t0 t1 t2:TypeId} (h:B3 w wr c0 c1 c2 t0 t1 t2) (k:Kept (fun x=>x=w.heap.size+1+1) wr w') (hd:w'.heap[w.heap.size+1+1]? = some (.cells d t2 (0,0))):B3 w w' c0 c1 d t0 t1 t2:=⟨k.blk h.b0 (by omega),k.blk h.b1 (by omega),hd,h.below.trans (k.toBelow h.below.size (by rintro i rfl;omega))⟩
theorem B3.far {w wr:World} {c0 c1 c2:Array Value} {t0 t1 t2:TypeId} (h:B3 w wr c0 c1 c2 t0 t1 t2) (g i:Nat) (v:Value) (hg:w.heap.size+1+1 < g):B3 w (wr.setCell ⟨g,i,none⟩ v) c0 c1 c2 t0 t1 t2:=⟨ay h.b0 _ (by omega),ay h.b1 _ (by omega),ay h.b2 _ (by omega),h.below.setCell (p:=⟨g,i,none⟩) (by simp;omega) _⟩
theorem B3.TT {w wr w':World} {c0 c1 c2:Array Value} {t0 t1 t2:TypeId} {T:Nat→Prop} (h:B3 w wr c0 c1 c2 t0 t1 t2) (k:Kept T wr w') (hT:∀ i,T i→w.heap.size+1+1 < i):B3 w w' c0 c1 c2 t0 t1 t2:=⟨k.blk h.b0 (fun e=>by have:=hT _ e;omega),k.blk h.b1 (fun e=>by have:=hT _ e;omega),k.blk h.b2 (fun e=>by have:=hT _ e;omega),h.below.trans (k.toBelow h.below.size (fun i hi=>by have:=hT i hi;omega))⟩
structure B4 (w wr:World) (c0 c1 c2 c3:Array Value) (t0 t1 t2 t3:TypeId):Prop where
 b0:wr.heap[w.heap.size]? = some (.cells c0 t0 (0,0))
 b1:wr.heap[w.heap.size+1]? = some (.cells c1 t1 (0,0))
 b2:wr.heap[w.heap.size+1+1]? = some (.cells c2 t2 (0,0))
 b3:wr.heap[w.heap.size+1+1+1]? = some (.cells c3 t3 (0,0))
 below:Below w.heap.size w wr
theorem B4.start (w:World) (c0 c1 c2 c3:Array Value) (t0 t1 t2 t3:TypeId):B4 w ((((w.alloc (.cells c0 t0)).alloc (.cells c1 t1)).alloc (.cells c2 t2)).alloc (.cells c3 t3)) c0 c1 c2 c3 t0 t1 t2 t3:=by
 have e1:∀ o0:Obj,(w.alloc o0).heap.size=w.heap.size+1:=by simp
 have e2:∀ o0 o1:Obj,((w.alloc o0).alloc o1).heap.size=w.heap.size+1+1:=by simp
 have e3:∀ o0 o1 o2:Obj,(((w.alloc o0).alloc o1).alloc o2).heap.size=w.heap.size+1+1+1:=by simp
 refine ⟨?_,?_,?_,?_,(((((Below.refl _ w).alloc (by exact abC _) _).alloc (by rw [e1];omega) _).alloc (by rw [e2];omega) _).alloc (by rw [e3];omega) _)⟩
 ·exact aY (aY (aY (aH _ _) _) _) _
 ·rw [← e1 (.cells c0 t0)]
  exact aY (aY (aH _ _) _) _
 ·rw [← e2 (.cells c0 t0) (.cells c1 t1)]
  exact aY (aH _ _) _
 ·rw [← e3 (.cells c0 t0) (.cells c1 t1) (.cells c2 t2)]
  exact aH _ _
theorem B4.drewN {w wr:World} {c0 c1 c2 c3:Array Value} {t0 t1 t2 t3:TypeId} (h:B4 w wr c0 c1 c2 c3 t0 t1 t2 t3) (k:Nat):B4 w (wr.drewN k) c0 c1 c2 c3 t0 t1 t2 t3:=⟨h.b0,h.b1,h.b2,h.b3,Go.Proofs.YthdgbgleklkaiaaGreatDoor.Below.drewN h.below k⟩
theorem B4.drew {w wr:World} {c0 c1 c2 c3:Array Value} {t0 t1 t2 t3:TypeId} (h:B4 w wr c0 c1 c2 c3 t0 t1 t2 t3):B4 w wr.drew c0 c1 c2 c3 t0 t1 t2 t3:=⟨h.b0,h.b1,h.b2,h.b3,⟨h.below.os,h.below.tape,h.below.output,h.below.size,h.below.block⟩⟩
theorem B4.after {w wr w':World} {c0 c1 c2 c3:Array Value} {t0 t1 t2 t3:TypeId} (h:B4 w wr c0 c1 c2 c3 t0 t1 t2 t3) (b:Below wr.heap.size wr w'):B4 w w' c0 c1 c2 c3 t0 t1 t2 t3:=⟨Below.blk b h.b0 (aV h.b0),Below.blk b h.b1 (aV h.b1),Below.blk b h.b2 (aV h.b2),Below.blk b h.b3 (aV h.b3),h.below.trans (b.mono h.below.size)⟩
theorem B4.alloc {w wr:World} {c0 c1 c2 c3:Array Value} {t0 t1 t2 t3:TypeId} (h:B4 w wr c0 c1 c2 c3 t0 t1 t2 t3) (o:Obj):B4 w (wr.alloc o) c0 c1 c2 c3 t0 t1 t2 t3:=h.after ((Below.refl _ wr).alloc (abC _) o)
theorem B4.set0 {w wr:World} {c0 c1 c2 c3:Array Value} {t0 t1 t2 t3:TypeId} (h:B4 w wr c0 c1 c2 c3 t0 t1 t2 t3) (i:Nat) (v:Value):B4 w (wr.setCell ⟨w.heap.size,i,none⟩ v) (c0.setIfInBounds i v) c1 c2 c3 t0 t1 t2 t3:=⟨aQ h.b0 v,ay h.b1 _ (by omega),ay h.b2 _ (by omega),ay h.b3 _ (by omega),h.below.setCell (p:=⟨w.heap.size,i,none⟩) (by simp) _⟩
theorem B4.put0 {w wr w':World} {c0 c1 c2 c3 d:Array Value} {t0 t1 t2 t3:TypeId} (h:B4 w wr c0 c1 c2 c3 t0 t1 t2 t3) (k:Kept (fun x=>x=w.heap.size) wr w') (hd:w'.heap[w.heap.size]? = some (.cells d t0 (0,0))):B4 w w' d c1 c2 c3 t0 t1 t2 t3:=⟨hd,k.blk h.b1 (by omega),k.blk h.b2 (by omega),k.blk h.b3 (by omega),h.below.trans (k.toBelow h.below.size (by rintro i rfl;omega))⟩
theorem B4.IL {w wr w':World} {c0 c1 c2 c3 d:Array Value} {t0 t1 t2 t3:TypeId} (h:B4 w wr c0 c1 c2 c3 t0 t1 t2 t3) (k:Kept (fun x=>x=w.heap.size+1) wr w') (hd:w'.heap[w.heap.size+1]? = some (.cells d t1 (0,0))):B4 w w' c0 d c2 c3 t0 t1 t2 t3:=⟨k.blk h.b0 (by omega),hd,k.blk h.b2 (by omega),k.blk h.b3 (by omega),h.below.trans (k.toBelow h.below.size (by rintro i rfl;omega))⟩
theorem B4.set2 {w wr:World} {c0 c1 c2 c3:Array Value} {t0 t1 t2 t3:TypeId} (h:B4 w wr c0 c1 c2 c3 t0 t1 t2 t3) (i:Nat) (v:Value):B4 w (wr.setCell ⟨w.heap.size+1+1,i,none⟩ v) c0 c1 (c2.setIfInBounds i v) c3 t0 t1 t2 t3:=⟨ay h.b0 _ (by omega),ay h.b1 _ (by omega),aQ h.b2 v,ay h.b3 _ (by omega),h.below.setCell (p:=⟨w.heap.size+1+1,i,none⟩) (by simp;omega) _⟩
theorem B4.put2 {w wr w':World} {c0 c1 c2 c3 d:Array Value} {t0 t1 t2 t3:TypeId} (h:B4 w wr c0 c1 c2 c3 t0 t1 t2 t3) (k:Kept (fun x=>x=w.heap.size+1+1) wr w') (hd:w'.heap[w.heap.size+1+1]? = some (.cells d t2 (0,0))):B4 w w' c0 c1 d c3 t0 t1 t2 t3:=⟨k.blk h.b0 (by omega),k.blk h.b1 (by omega),hd,k.blk h.b3 (by omega),h.below.trans (k.toBelow h.below.size (by rintro i rfl;omega))⟩
theorem B4.set3 {w wr:World} {c0 c1 c2 c3:Array Value} {t0 t1 t2 t3:TypeId} (h:B4 w wr c0 c1 c2 c3 t0 t1 t2 t3) (i:Nat) (v:Value):B4 w (wr.setCell ⟨w.heap.size+1+1+1,i,none⟩ v) c0 c1 c2 (c3.setIfInBounds i v) t0 t1 t2 t3:=⟨ay h.b0 _ (by omega),ay h.b1 _ (by omega),ay h.b2 _ (by omega),aQ h.b3 v,h.below.setCell (p:=⟨w.heap.size+1+1+1,i,none⟩) (by simp;omega) _⟩
theorem B4.put3 {w wr w':World} {c0 c1 c2 c3 d:Array Value} {t0 t1 t2 t3:TypeId} (h:B4 w wr c0 c1 c2 c3 t0 t1 t2 t3) (k:Kept (fun x=>x=w.heap.size+1+1+1) wr w') (hd:w'.heap[w.heap.size+1+1+1]? = some (.cells d t3 (0,0))):B4 w w' c0 c1 c2 d t0 t1 t2 t3:=⟨k.blk h.b0 (by omega),k.blk h.b1 (by omega),k.blk h.b2 (by omega),hd,h.below.trans (k.toBelow h.below.size (by rintro i rfl;omega))⟩
theorem B4.far {w wr:World} {c0 c1 c2 c3:Array Value} {t0 t1 t2 t3:TypeId} (h:B4 w wr c0 c1 c2 c3 t0 t1 t2 t3) (g i:Nat) (v:Value) (hg:w.heap.size+1+1+1 < g):B4 w (wr.setCell ⟨g,i,none⟩ v) c0 c1 c2 c3 t0 t1 t2 t3:=⟨ay h.b0 _ (by omega),ay h.b1 _ (by omega),ay h.b2 _ (by omega),ay h.b3 _ (by omega),h.below.setCell (p:=⟨g,i,none⟩) (by simp;omega) _⟩
theorem B4.TT {w wr w':World} {c0 c1 c2 c3:Array Value} {t0 t1 t2 t3:TypeId} {T:Nat→Prop} (h:B4 w wr c0 c1 c2 c3 t0 t1 t2 t3) (k:Kept T wr w') (hT:∀ i,T i→w.heap.size+1+1+1 < i):B4 w w' c0 c1 c2 c3 t0 t1 t2 t3:=⟨k.blk h.b0 (fun e=>by have:=hT _ e;omega),k.blk h.b1 (fun e=>by have:=hT _ e;omega),k.blk h.b2 (fun e=>by have:=hT _ e;omega),k.blk h.b3 (fun e=>by have:=hT _ e;omega),h.below.trans (k.toBelow h.below.size (fun i hi=>by have:=hT i hi;omega))⟩
structure B5 (w wr:World) (c0 c1 c2 c3 c4:Array Value) (t0 t1 t2 t3 t4:TypeId):Prop where
 b0:wr.heap[w.heap.size]? = some (.cells c0 t0 (0,0))
 b1:wr.heap[w.heap.size+1]? = some (.cells c1 t1 (0,0))
 b2:wr.heap[w.heap.size+1+1]? = some (.cells c2 t2 (0,0))
 b3:wr.heap[w.heap.size+1+1+1]? = some (.cells c3 t3 (0,0))
 b4:wr.heap[w.heap.size+1+1+1+1]? = some (.cells c4 t4 (0,0))
 below:Below w.heap.size w wr
theorem B5.drewN {w wr:World} {c0 c1 c2 c3 c4:Array Value} {t0 t1 t2 t3 t4:TypeId} (h:B5 w wr c0 c1 c2 c3 c4 t0 t1 t2 t3 t4) (k:Nat):B5 w (wr.drewN k) c0 c1 c2 c3 c4 t0 t1 t2 t3 t4:=⟨h.b0,h.b1,h.b2,h.b3,h.b4,Go.Proofs.YthdgbgleklkaiaaGreatDoor.Below.drewN h.below k⟩
theorem B5.drew {w wr:World} {c0 c1 c2 c3 c4:Array Value} {t0 t1 t2 t3 t4:TypeId} (h:B5 w wr c0 c1 c2 c3 c4 t0 t1 t2 t3 t4):B5 w wr.drew c0 c1 c2 c3 c4 t0 t1 t2 t3 t4:=⟨h.b0,h.b1,h.b2,h.b3,h.b4,⟨h.below.os,h.below.tape,h.below.output,h.below.size,h.below.block⟩⟩
theorem B5.after {w wr w':World} {c0 c1 c2 c3 c4:Array Value} {t0 t1 t2 t3 t4:TypeId} (h:B5 w wr c0 c1 c2 c3 c4 t0 t1 t2 t3 t4) (b:Below wr.heap.size wr w'):B5 w w' c0 c1 c2 c3 c4 t0 t1 t2 t3 t4:=⟨Below.blk b h.b0 (aV h.b0),Below.blk b h.b1 (aV h.b1),Below.blk b h.b2 (aV h.b2),Below.blk b h.b3 (aV h.b3),Below.blk b h.b4 (aV h.b4),h.below.trans (b.mono h.below.size)⟩
theorem B5.alloc {w wr:World} {c0 c1 c2 c3 c4:Array Value} {t0 t1 t2 t3 t4:TypeId} (h:B5 w wr c0 c1 c2 c3 c4 t0 t1 t2 t3 t4) (o:Obj):B5 w (wr.alloc o) c0 c1 c2 c3 c4 t0 t1 t2 t3 t4:=h.after ((Below.refl _ wr).alloc (abC _) o)
theorem B5.set0 {w wr:World} {c0 c1 c2 c3 c4:Array Value} {t0 t1 t2 t3 t4:TypeId} (h:B5 w wr c0 c1 c2 c3 c4 t0 t1 t2 t3 t4) (i:Nat) (v:Value):B5 w (wr.setCell ⟨w.heap.size,i,none⟩ v) (c0.setIfInBounds i v) c1 c2 c3 c4 t0 t1 t2 t3 t4:=⟨aQ h.b0 v,ay h.b1 _ (by omega),ay h.b2 _ (by omega),ay h.b3 _ (by omega),ay h.b4 _ (by omega),h.below.setCell (p:=⟨w.heap.size,i,none⟩) (by simp) _⟩
theorem B5.put0 {w wr w':World} {c0 c1 c2 c3 c4 d:Array Value} {t0 t1 t2 t3 t4:TypeId} (h:B5 w wr c0 c1 c2 c3 c4 t0 t1 t2 t3 t4) (k:Kept (fun x=>x=w.heap.size) wr w') (hd:w'.heap[w.heap.size]? = some (.cells d t0 (0,0))):B5 w w' d c1 c2 c3 c4 t0 t1 t2 t3 t4:=⟨hd,k.blk h.b1 (by omega),k.blk h.b2 (by omega),k.blk h.b3 (by omega),k.blk h.b4 (by omega),h.below.trans (k.toBelow h.below.size (by rintro i rfl;omega))⟩
theorem B5.IL {w wr w':World} {c0 c1 c2 c3 c4 d:Array Value} {t0 t1 t2 t3 t4:TypeId} (h:B5 w wr c0 c1 c2 c3 c4 t0 t1 t2 t3 t4) (k:Kept (fun x=>x=w.heap.size+1) wr w') (hd:w'.heap[w.heap.size+1]? = some (.cells d t1 (0,0))):B5 w w' c0 d c2 c3 c4 t0 t1 t2 t3 t4:=⟨k.blk h.b0 (by omega),hd,k.blk h.b2 (by omega),k.blk h.b3 (by omega),k.blk h.b4 (by omega),h.below.trans (k.toBelow h.below.size (by rintro i rfl;omega))⟩
theorem B5.set2 {w wr:World} {c0 c1 c2 c3 c4:Array Value} {t0 t1 t2 t3 t4:TypeId} (h:B5 w wr c0 c1 c2 c3 c4 t0 t1 t2 t3 t4) (i:Nat) (v:Value):B5 w (wr.setCell ⟨w.heap.size+1+1,i,none⟩ v) c0 c1 (c2.setIfInBounds i v) c3 c4 t0 t1 t2 t3 t4:=⟨ay h.b0 _ (by omega),ay h.b1 _ (by omega),aQ h.b2 v,ay h.b3 _ (by omega),ay h.b4 _ (by omega),h.below.setCell (p:=⟨w.heap.size+1+1,i,none⟩) (by simp;omega) _⟩
theorem B5.put2 {w wr w':World} {c0 c1 c2 c3 c4 d:Array Value} {t0 t1 t2 t3 t4:TypeId} (h:B5 w wr c0 c1 c2 c3 c4 t0 t1 t2 t3 t4) (k:Kept (fun x=>x=w.heap.size+1+1) wr w') (hd:w'.heap[w.heap.size+1+1]? = some (.cells d t2 (0,0))):B5 w w' c0 c1 d c3 c4 t0 t1 t2 t3 t4:=⟨k.blk h.b0 (by omega),k.blk h.b1 (by omega),hd,k.blk h.b3 (by omega),k.blk h.b4 (by omega),h.below.trans (k.toBelow h.below.size (by rintro i rfl;omega))⟩
theorem B5.set3 {w wr:World} {c0 c1 c2 c3 c4:Array Value} {t0 t1 t2 t3 t4:TypeId} (h:B5 w wr c0 c1 c2 c3 c4 t0 t1 t2 t3 t4) (i:Nat) (v:Value):B5 w (wr.setCell ⟨w.heap.size+1+1+1,i,none⟩ v) c0 c1 c2 (c3.setIfInBounds i v) c4 t0 t1 t2 t3 t4:=⟨ay h.b0 _ (by omega),ay h.b1 _ (by omega),ay h.b2 _ (by omega),aQ h.b3 v,ay h.b4 _ (by omega),h.below.setCell (p:=⟨w.heap.size+1+1+1,i,none⟩) (by simp;omega) _⟩
theorem B5.put3 {w wr w':World} {c0 c1 c2 c3 c4 d:Array Value} {t0 t1 t2 t3 t4:TypeId} (h:B5 w wr c0 c1 c2 c3 c4 t0 t1 t2 t3 t4) (k:Kept (fun x=>x=w.heap.size+1+1+1) wr w') (hd:w'.heap[w.heap.size+1+1+1]? = some (.cells d t3 (0,0))):B5 w w' c0 c1 c2 d c4 t0 t1 t2 t3 t4:=⟨k.blk h.b0 (by omega),k.blk h.b1 (by omega),k.blk h.b2 (by omega),hd,k.blk h.b4 (by omega),h.below.trans (k.toBelow h.below.size (by rintro i rfl;omega))⟩
theorem B5.far {w wr:World} {c0 c1 c2 c3 c4:Array Value} {t0 t1 t2 t3 t4:TypeId} (h:B5 w wr c0 c1 c2 c3 c4 t0 t1 t2 t3 t4) (g i:Nat) (v:Value) (hg:w.heap.size+1+1+1+1 < g):B5 w (wr.setCell ⟨g,i,none⟩ v) c0 c1 c2 c3 c4 t0 t1 t2 t3 t4:=⟨ay h.b0 _ (by omega),ay h.b1 _ (by omega),ay h.b2 _ (by omega),ay h.b3 _ (by omega),ay h.b4 _ (by omega),h.below.setCell (p:=⟨g,i,none⟩) (by simp;omega) _⟩
theorem B5.TT {w wr w':World} {c0 c1 c2 c3 c4:Array Value} {t0 t1 t2 t3 t4:TypeId} {T:Nat→Prop} (h:B5 w wr c0 c1 c2 c3 c4 t0 t1 t2 t3 t4) (k:Kept T wr w') (hT:∀ i,T i→w.heap.size+1+1+1+1 < i):B5 w w' c0 c1 c2 c3 c4 t0 t1 t2 t3 t4:=⟨k.blk h.b0 (fun e=>by have:=hT _ e;omega),k.blk h.b1 (fun e=>by have:=hT _ e;omega),k.blk h.b2 (fun e=>by have:=hT _ e;omega),k.blk h.b3 (fun e=>by have:=hT _ e;omega),k.blk h.b4 (fun e=>by have:=hT _ e;omega),h.below.trans (k.toBelow h.below.size (fun i hi=>by have:=hT i hi;omega))⟩
end Go.Proofs.YthdgbgleklkaiaaGreatDoor
