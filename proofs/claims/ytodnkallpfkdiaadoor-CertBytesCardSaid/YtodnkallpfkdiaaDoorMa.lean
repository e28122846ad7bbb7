/- What a call keeps of memory: facts on worlds alone, no program in sight. Condition: as each theorem says. -/
import Derived.WalkKit
import Derived.Lib.MinMax
import Derived.Lib.Hide
import Derived.Deep.Draws
import Derived.Deep.QuietTactic
import Derived.BigQuiet
import Derived.Test.YtodnkallpfkdiaaDoorChecked
import Derived.Maps.AppendAt
import Derived.Deep.AppendLies
import Derived.Deep.OwnRows
import Derived.RegionTactic
import Derived.OwnWalk
import Derived.Laws.OwnMore
import Derived.Laws.CopyOwn
import Derived.Laws.BytesArg
import Derived.WalkSpells
import Derived.Laws.StructEq
import Derived.Deep.MidRow
import Derived.Deep.RegionHeld3
import Derived.Deep.DeepCutAuto
import Derived.Shelf.Bits.Mul64
import Derived.Shelf.Spec.BitsCarry
import Derived.StillTailTactics
set_option maxRecDepth 100000
set_option maxHeartbeats 16000000
set_option linter.unusedSimpArgs false
set_option linter.unusedVariables false
namespace Go.Proofs.YtodnkallpfkdiaaDoor
open Go.RowKit
theorem sA {α:Type} {l:List α} {i:Nat} {a:α}:l.toArray.setIfInBounds i a=(l.set i a).toArray:=by simp
theorem sZ {α:Type} {x a:α} {l:List α}:(x :: l).set 0 a=a :: l:=rfl
theorem sS {α:Type} {x a:α} {l:List α} {n:Nat}:(x :: l).set (n+1) a=x :: l.set n a:=rfl
theorem sE {α:Type} {o:Option α} (h:o.isSome=true):∃ v,o=some v:=Option.isSome_iff_exists.1 h
theorem sI {α:Type} {a b:α} (h:some a=some b):b=a:=(Option.some.inj h).symm
theorem aS (s:Nat) {P:Program} {ops:Array Oper} {Q:Exit→Act→World→Prop} {op:Op} {t:TypeId} {p:String} {af:Array Edge} {g:Option (Nat×Bool)} {r:List Oper} {a:Act} {w:World} (h:wpList P ops Q (Oper.mk (some s) op t p af g :: r) a w):wpList P ops Q (Oper.mk (some s) op t p af g :: r) a w:=h
theorem aT (s:Nat) {x:Operand} {y:TypeId} {P:Program} {ops:Array Oper} {Q:Exit→Act→World→Prop} {t:TypeId} {p:String} {af:Array Edge} {g:Option (Nat×Bool)} {r:List Oper} {a:Act} {w:World} (h:wpList P ops Q (Oper.mk none (Op.store y (Operand.tmp s) x) t p af g :: r) a w):wpList P ops Q (Oper.mk none (Op.store y (Operand.tmp s) x) t p af g :: r) a w:=h
/-- Of the blocks of w those alone may have turned of which T speaks. -/
structure Kept (T:Nat→Prop) (w w':World):Prop where
 os:w'.os=w.os
 tape:w'.tape=w.tape
 output:w'.output=w.output
 size:w.heap.size≤w'.heap.size
 block:∀ k,k < w.heap.size→¬ T k→w'.heap[k]? = w.heap[k]?
theorem Kept.refl (T:Nat→Prop) (w:World):Kept T w w:=⟨rfl,rfl,rfl,Nat.le_refl _,fun _ _ _=>rfl⟩
theorem Kept.trans {T:Nat→Prop} {a b c:World} (h:Kept T a b) (k:Kept T b c):Kept T a c :=
 ⟨k.os.trans h.os,k.tape.trans h.tape,k.output.trans h.output,Nat.le_trans h.size k.size,
  fun i hi ht=>(k.block i (Nat.lt_of_lt_of_le hi h.size) ht).trans (h.block i hi ht)⟩
/-- The second step may also turn what is new since a. -/
theorem Kept.trans_new {T T':Nat→Prop} {a b c:World} (h:Kept T a b) (k:Kept T' b c) (ht:∀ i,i < a.heap.size→T' i→T i):Kept T a c :=
 ⟨k.os.trans h.os,k.tape.trans h.tape,k.output.trans h.output,Nat.le_trans h.size k.size,
  fun i hi hn=>(k.block i (Nat.lt_of_lt_of_le hi h.size) (fun e=>hn (ht i hi e))).trans (h.block i hi hn)⟩
theorem Kept.mono {T T':Nat→Prop} {a b:World} (h:Kept T a b) (ht:∀ i,i < a.heap.size→T i→T' i):Kept T' a b :=
 ⟨h.os,h.tape,h.output,h.size,fun i hi hn=>h.block i hi (fun e=>hn (ht i hi e))⟩
theorem Kept.drewN {T:Nat→Prop} {a w:World} (h:Kept T a w) (n:Nat):Kept T a (w.drewN n):=⟨h.os,h.tape,h.output,h.size,h.block⟩
theorem Kept.drew {T:Nat→Prop} {a w:World} (h:Kept T a w):Kept T a w.drew:=⟨h.os,h.tape,h.output,h.size,h.block⟩
theorem Kept.alloc {T:Nat→Prop} {a w:World} (h:Kept T a w) (o:Obj):Kept T a (w.alloc o) :=
 h.trans ⟨rfl,rfl,rfl,by simp,fun k hk _=>Below.heap_alloc _ _ _ hk⟩
theorem Kept.setCell {T:Nat→Prop} {a w:World} (h:Kept T a w) {p:Addr} (hp:T p.block∨a.heap.size≤p.block) (u:Value):Kept T a (w.setCell p u) :=
 ⟨h.os,h.tape,h.output,by simpa [World.setCell] using h.size,fun k hk ht=>(Below.heap_setCell w p u k (by
  rintro rfl
  rcases hp with hp|hp
  ·exact ht hp
  ·omega)).trans (h.block k hk ht)⟩
theorem Kept.of_below {T:Nat→Prop} {a b:World} (h:Below a.heap.size a b):Kept T a b:=⟨h.os,h.tape,h.output,h.size,fun k hk _=>h.block k hk⟩
theorem Kept.toBelow {T:Nat→Prop} {B:Nat} {a b:World} (h:Kept T a b) (hB:B≤a.heap.size) (ht:∀ i,T i→B≤i):Below B a b :=
 ⟨h.os,h.tape,h.output,h.size,fun k hk=>h.block k (Nat.lt_of_lt_of_le hk hB) (fun e=>absurd (ht k e) (by omega))⟩
theorem Kept.blk {T:Nat→Prop} {a b:World} (h:Kept T a b) {k:Nat} {o:Obj} (hk:a.heap[k]? = some o) (ht:¬ T k):b.heap[k]? = some o :=
 (h.block k (Array.getElem?_eq_some_iff.1 hk).1 ht).trans hk
theorem Below.blk {B:Nat} {a b:World} (h:Below B a b) {k:Nat} {o:Obj} (hk:a.heap[k]? = some o) (ht:k < B):b.heap[k]? = some o :=
 (h.block k ht).trans hk
theorem blk_lt {w:World} {k:Nat} {o:Obj} (h:w.heap[k]? = some o):k < w.heap.size:=(Array.getElem?_eq_some_iff.1 h).1
theorem blk_setCell {w:World} {b o:Nat} {c:Array Value} {t:TypeId} {fr:Nat×Nat} (h:w.heap[b]? = some (.cells c t fr)) (u:Value) :
  (w.setCell ⟨b,o,none⟩ u).heap[b]? = some (.cells (c.setIfInBounds o u) t fr):=by
 simp [World.setCell,Array.getElem?_modify,h]
theorem blk_setCell_ne {w:World} {b k o:Nat} {x:Obj} (h:w.heap[k]? = some x) (u:Value) (hne:k≠b) :
  (w.setCell ⟨b,o,none⟩ u).heap[k]? = some x:=(Below.heap_setCell w ⟨b,o,none⟩ u k hne).trans h
theorem blk_alloc {w:World} {k:Nat} {x:Obj} (h:w.heap[k]? = some x) (o:Obj):(w.alloc o).heap[k]? = some x :=
 (Below.heap_alloc w o k (blk_lt h)).trans h
theorem blk_new (w:World) (o:Obj):(w.alloc o).heap[w.heap.size]? = some o:=heap_alloc_new w o
theorem cell_blk {w:World} {b:Nat} {c:Array Value} {t:TypeId} {fr:Nat×Nat} (h:w.heap[b]? = some (.cells c t fr)) (o:Nat):w.cell? ⟨b,o,none⟩=c[o]? := by
 simp [World.cell?, h]
theorem free_blk {w:World} {b:Nat} {c:Array Value} {t:TypeId} (h:w.heap[b]? = some (.cells c t (0,0))) (o:Nat):w.frozen? ⟨b,o,none⟩=false:=by
 simp [World.frozen?, h]
theorem Below.drewN {B:Nat} {a w:World} (h:RowKit.Below B a w) (n:Nat):RowKit.Below B a (w.drewN n):=⟨h.os,h.tape,h.output,h.size,h.block⟩
theorem below_cell {a b:World} (h:RowKit.Below a.heap.size a b) {x:Addr} {v:Value} (hx:a.cell? x=some v):b.cell? x=some v :=
 (h.cell (World.block_lt_of_cell? a _ hx)).trans hx
theorem Kept.at {p:Nat} {a w:World} (h:Kept (fun x=>x=p) a w) (o:Nat) (u:Value):Kept (fun x=>x=p) a (w.setCell ⟨p,o,none⟩ u):=h.setCell (p:=⟨p,o,none⟩) (.inl rfl) u
theorem ret_bool {a b:Bool} (h:a=b):Ending.returned (.bool a) = .returned (.bool b):=by rw [h]
theorem ret_int {k:IntKind} {a b:Int} (h:a=b):Ending.returned (.int k a) = .returned (.int k b):=by rw [h]
end Go.Proofs.YtodnkallpfkdiaaDoor
namespace Go.Proofs.YtodnkallpfkdiaaDoor
open Go.RowKit
def row8 (b:List Int) (sp:List Value):Array Value:=(b.map (Value.int .u8) ++ sp).toArray
/-- n bytes lie behind the address sa (whatever it is where there are none). -/
structure Src (w:World) (sa:Option Addr) (n:Nat) (xs:List Int):Prop where
 len:xs.length=n
 cell:∀ i,i < n→∃ a,sa=some a∧w.cell? (a.add i)=some (.int .u8 (xs.getD i 0))
theorem row8_get (b:List Int) (sp:List Value) (i:Nat) (h:i < b.length):(row8 b sp)[i]? = some (.int .u8 (b.getD i 0)):=by
 unfold row8
 rw [List.getElem?_toArray,List.getElem?_append_left (by simpa using h)]
 simp [List.getD,h]
theorem row8_set (b:List Int) (sp:List Value) (i:Nat) (h:i < b.length) (x:Int):(row8 b sp).setIfInBounds i (.int .u8 x)=row8 (b.set i x) sp:=by
 unfold row8
 rw [List.setIfInBounds_toArray,List.set_append_left _ _ (by simpa using h),List.map_set]
theorem Kept.cellX {T:Nat→Prop} {a b:World} (h:Kept T a b) {x:Addr} {v:Value} (hx:a.cell? x=some v) (ht:¬ T x.block):b.cell? x=some v :=
 (World.cell?_of_block (h.block x.block (World.block_lt_of_cell? a x hx) ht)).trans hx
theorem block_add (a:Addr) (n:Nat):(a.add n).block=a.block:=by unfold Addr.add;split <;> rfl
theorem size_u8:(Tryd.prog.info? 5).map (·.size)=some 1:=by kernel_rfl
/-- v is a slice of the call's own (from block B on) that holds just these bytes. -/
def Owns (w:World) (B:Nat) (v:Value) (xs:List Int):Prop :=
 ∃ g cap sp,v = .slice (some ⟨g,0,none⟩) xs.length cap∧B≤g∧w.heap[g]? = some (.cells (row8 xs sp) 5 (0,0))∧cap=xs.length+sp.length∧cap≤maxLen
theorem Owns.of_row {w:World} {B:Nat} {v:Value} {xs:List Int} (h:w.ownsRow B 5 1 v xs.length (xs.map (Value.int .u8))) (hv:v ≠ .slice none 0 0):Owns w B v xs:=by
 obtain ⟨h1,h2⟩:=h
 rcases h2 with ⟨rfl,_⟩|⟨g,cap,cur,rfl,hB,hg,hn,hm,hs,ht⟩
 ·exact absurd rfl hv
 ·refine ⟨g,cap,cur.toList.drop xs.length,rfl,hB,?_,?_,hm⟩
  ·rw [hg]
   congr 2
   unfold row8
   rw [← ht]
   simp
  ·simp [hs];omega
theorem info_u8:(Tryd.prog.info? 5).map (fun i=>(i.zero,i.size,i.bytes))=some (some (.int .u8 0),1,1):=by kernel_rfl
theorem Owns.str {w:World} {B:Nat} {v:Value} {xs:List Int} (h:Owns w B v xs):(convert 24 9 v).run Tryd.prog w = .ok (.string (strOfNums xs)) w:=by
 obtain ⟨g,cap,sp,rfl,_,hg,_,_⟩:=h
 refine run_convert_bytes_arg w 24 5 Tryd.underlying24 Tryd.underlying5 g 0 _ _ xs rfl (fun i hi=>?_) 9 Tryd.underlying9
 rw [Nat.zero_add,cell_blk hg,row8_get _ _ _ hi]
theorem Owns.kept {T:Nat→Prop} {w w':World} {B:Nat} {v:Value} {xs:List Int} (h:Owns w B v xs) (k:Kept T w w') (hT:∀ g,B≤g→g < w.heap.size→¬ T g):Owns w' B v xs:=by
 obtain ⟨g,cap,sp,hv,hB,hg,h1,h2⟩:=h
 exact ⟨g,cap,sp,hv,hB,k.blk hg (hT g hB (blk_lt hg)),h1,h2⟩
theorem Owns.mono {w:World} {B B':Nat} {v:Value} {xs:List Int} (h:Owns w B v xs) (hB:B'≤B):Owns w B' v xs:=by
 obtain ⟨g,cap,sp,hv,h0,hg,h1,h2⟩:=h
 exact ⟨g,cap,sp,hv,by omega,hg,h1,h2⟩
theorem Owns.drewN {w:World} {B:Nat} {v:Value} {xs:List Int} (h:Owns w B v xs) (n:Nat):Owns (w.drewN n) B v xs:=h
def zeros (n:Nat):List Int:=List.replicate n 0
theorem zeros_len (n:Nat):(zeros n).length=n:=by simp [zeros]
theorem zeros_get (n i:Nat):(zeros n).getD i 0=0:=by
 simp only [zeros,List.getD,List.getElem?_replicate]
 split <;> rfl
theorem zeros_mem (n:Nat):∀ x∈zeros n,0≤x∧x≤255:=by
 intro x hx
 have:=List.eq_of_mem_replicate hx
 omega
theorem made8 (n:Nat):madeCells #[Value.int .u8 0] n=row8 (zeros n) []:=by
 unfold row8 zeros
 apply Array.ext
 ·simp [size_madeCells]
 ·intro i h1 h2
  simp [madeCells,Nat.mod_one]
theorem mk8 (n:Nat) (hn:n≤1099511627776) (w:World) :
  (Instr.makeSlice 24 (.int .i64 (n:Int)) (.int .i64 (n:Int))).run Tryd.prog w = .ok (.slice (some ⟨w.heap.size,0,none⟩) n n) (w.alloc (.cells (row8 (zeros n) []) 5)):=by
 rw [← made8]
 exact run_make_row' 24 5 (.int .u8 0) 1 Tryd.underlying24 info_u8 rfl .i64 .i64 n (by omega) (by omega) w
theorem src_blk {w:World} {b:Nat} {xs:List Int} {sp:List Value} (h:w.heap[b]? = some (.cells (row8 xs sp) 5 (0,0))):Src w (some ⟨b,0,none⟩) xs.length xs:=by
 refine ⟨rfl,fun i hi=>⟨_,rfl,?_⟩⟩
 have e:(⟨b,0,none⟩:Addr).add i=⟨b,i,none⟩:=by unfold Addr.add;split <;> simp_all
 rw [e,cell_blk h,row8_get _ _ _ hi]
/-- v is a slice of the call's own (from block B on), or nil, that holds just these bytes. -/
def Own8 (w:World) (B:Nat) (v:Value) (xs:List Int):Prop:=w.ownsRow B 5 1 v xs.length (xs.map (Value.int .u8))
theorem Own8.nil (w:World) (B:Nat):Own8 w B (.slice none 0 0) []:=⟨by simp, .inl ⟨rfl,rfl⟩⟩
theorem Own8.of_owns {w:World} {B:Nat} {v:Value} {xs:List Int} (h:Owns w B v xs):Own8 w B v xs:=by
 obtain ⟨g,cap,sp,rfl,hB,hg,hc,hm⟩:=h
 refine ⟨by simp, .inr ⟨g,cap,_,rfl,hB,hg,by omega,hm,by simp [row8];omega,?_⟩⟩
 simp [row8]
theorem src_row {w:World} {g:Nat} {cur:Array Value} {fr:Nat×Nat} {t:TypeId} {xs:List Int} {m:Nat} (hg:w.heap[g]? = some (.cells cur t fr)) (ht:cur.toList.take (xs.length * 1)=xs.map (Value.int .u8)) (hm:xs.length=m) :
  Src w (some ⟨g,0,none⟩) m xs:=by
 subst hm
 refine ⟨rfl,fun i hi=>⟨_,rfl,?_⟩⟩
 have e:(⟨g,0,none⟩:Addr).add i=⟨g,i,none⟩:=by unfold Addr.add;split <;> simp_all
 have hl:=congrArg (fun l=>l[i]?) ht
 simp only [Nat.mul_one,List.getElem?_take,hi,if_true,List.getElem?_map] at hl
 have hx:xs[i]? = some (xs.getD i 0):=by simp [List.getD,hi]
 rw [e,World.cell?]
 simp only [hg]
 rw [hx] at hl
 simpa using hl
/-- What such a slice is as a value, and as a source. -/
theorem Own8.form {w:World} {B:Nat} {v:Value} {xs:List Int} (h:Own8 w B v xs) :
  ∃ sa c,v = .slice sa xs.length c∧xs.length≤c∧c≤maxLen∧Src w sa xs.length xs∧((sa=none∧xs=[]∧c=0)∨∃ g,sa=some ⟨g,0,none⟩∧B≤g∧g < w.heap.size):=by
 obtain ⟨h1,h2⟩:=h
 rcases h2 with ⟨rfl,h0⟩|⟨g,cap,cur,rfl,hB,hg,hn,hm,hs,ht⟩
 ·have:xs=[]:=List.eq_nil_of_length_eq_zero h0
  subst this
  exact ⟨none,0,rfl,by simp,by simp [maxLen],⟨rfl,fun i hi=>absurd hi (by simp)⟩, .inl ⟨rfl,rfl,rfl⟩⟩
 ·exact ⟨_,cap,rfl,hn,hm,src_row hg ht rfl, .inr ⟨g,rfl,hB,blk_lt hg⟩⟩
theorem Own8.kept {T:Nat→Prop} {w w':World} {B:Nat} {v:Value} {xs:List Int} (h:Own8 w B v xs) (k:Kept T w w') (hT:∀ g,v.ownBlock=some g→¬ T g):Own8 w' B v xs:=by
 obtain ⟨h1,h2⟩:=h
 refine ⟨h1,?_⟩
 rcases h2 with h0|⟨g,cap,cur,rfl,hB,hg,hr⟩
 ·exact .inl h0
 ·exact .inr ⟨g,cap,cur,rfl,hB,k.blk hg (hT g rfl),hr⟩
theorem Own8.below {w w':World} {B:Nat} {v:Value} {xs:List Int} (h:Own8 w B v xs) (k:Below w.heap.size w w'):Own8 w' B v xs :=
 h.kept (T:=fun _=>False) (Kept.of_below k) (fun _ _=>id)
theorem Own8.drewN {w:World} {B:Nat} {v:Value} {xs:List Int} (h:Own8 w B v xs) (n:Nat):Own8 (w.drewN n) B v xs:=h
theorem Own8.drew {w:World} {B:Nat} {v:Value} {xs:List Int} (h:Own8 w B v xs):Own8 w.drew B v xs:=h
theorem Own8.alloc {w:World} {B:Nat} {v:Value} {xs:List Int} (h:Own8 w B v xs) (o:Obj):Own8 (w.alloc o) B v xs:=h.below ((Below.refl _ w).alloc (Nat.le_refl _) o)
theorem Own8.mono {w:World} {B B':Nat} {v:Value} {xs:List Int} (h:Own8 w B v xs) (hB:B'≤B):Own8 w B' v xs:=by
 obtain ⟨h1,h2⟩:=h
 refine ⟨h1,?_⟩
 rcases h2 with h0|⟨g,cap,cur,rfl,hb,hr⟩
 ·exact .inl h0
 ·exact .inr ⟨g,cap,cur,rfl,by omega,hr⟩
theorem Own8.lt {w:World} {B:Nat} {v:Value} {xs:List Int} (h:Own8 w B v xs):∀ k,v.ownBlock=some k→B≤k∧k < w.heap.size:=World.ownsRow.lt h
theorem Own8.len {w:World} {B:Nat} {v:Value} {xs:List Int} (h:Own8 w B v xs):xs.length≤maxLen:=by
 obtain ⟨_,c,_,h1,h2,_⟩:=h.form
 omega
/-- The bytes behind an address, as a string; the address may be none. -/
theorem src_str {w:World} {sa:Option Addr} {n c:Nat} {xs:List Int} (h:Src w sa n xs) (hp:∀ a,sa=some a→a.spot=none):(convert 24 9 (.slice sa n c)).run Tryd.prog w = .ok (.string (strOfNums xs)) w:=by
 cases sa with
 | none =>
  have h0:n=0:=by
   rcases Nat.eq_zero_or_pos n with h0|h0
   ·exact h0
   ·obtain ⟨_,he,_⟩:=h.cell 0 h0
    cases he
  have hx:xs=[]:=List.eq_nil_of_length_eq_zero (h.len.trans h0)
  subst hx
  exact run_convert_bytes_nil w 24 5 Tryd.underlying24 Tryd.underlying5 n c 9 Tryd.underlying9
 | some a =>
  obtain ⟨b,off,el⟩:=a
  have:el=none:=hp _ rfl
  subst this
  refine run_convert_bytes_arg w 24 5 Tryd.underlying24 Tryd.underlying5 b off n c xs h.len (fun i hi=>?_) 9 Tryd.underlying9
  obtain ⟨a',he,hc⟩:=h.cell i hi
  cases he
  have e:(⟨b,off,none⟩:Addr).add i=⟨b,off+i,none⟩:=by unfold Addr.add;split <;> simp_all
  rwa [e] at hc
theorem Own8.str {w:World} {B:Nat} {v:Value} {xs:List Int} (h:Own8 w B v xs):(convert 24 9 v).run Tryd.prog w = .ok (.string (strOfNums xs)) w:=by
 obtain ⟨sa,c,rfl,_,_,hs,hf⟩:=h.form
 refine src_str hs (fun a ha=>?_)
 rcases hf with ⟨rfl,_⟩|⟨g,rfl,_⟩
 ·cases ha
 ·cases ha;rfl
theorem Src.kept {T:Nat→Prop} {w w':World} {sa:Option Addr} {n:Nat} {xs:List Int} (h:Src w sa n xs) (k:Kept T w w') (hT:∀ a,sa=some a→n=0∨¬ T a.block):Src w' sa n xs:=by
 refine ⟨h.len,fun i hi=>?_⟩
 obtain ⟨a,he,hc⟩:=h.cell i hi
 refine ⟨a,he,k.cellX hc ?_⟩
 rw [block_add]
 rcases hT a he with h0|h0
 ·omega
 ·exact h0
theorem Src.below {w w':World} {sa:Option Addr} {n:Nat} {xs:List Int} (h:Src w sa n xs) (k:Below w.heap.size w w'):Src w' sa n xs :=
 h.kept (T:=fun _=>False) (Kept.of_below k) (fun _ _ => .inr id)
theorem src_news {w:World} {sa:Option Addr} {n:Nat} {xs:List Int} (h:Src w sa n xs) (a:Addr) (ha:sa=some a):∀ j u,(xs.map (Value.int .u8))[j]? = some u→w.cell? (a.add j)=some u:=by
 intro j u hj
 rw [List.getElem?_map] at hj
 have hjl:j < xs.length:=by
  rcases Nat.lt_or_ge j xs.length with q|q
  ·exact q
  ·rw [List.getElem?_eq_none q] at hj;cases hj
 obtain ⟨a',he,hc⟩:=h.cell j (by rw [← h.len];exact hjl)
 rw [ha] at he
 cases he
 rw [hc]
 simp [hjl] at hj
 simp [List.getD,hjl,hj]
theorem one_ints (k:IntKind) (xs:List Int):∀ u∈xs.map (Value.int k),u.oneCell'=true:=by
 intro u hu
 obtain ⟨x,_,rfl⟩:=List.mem_map.1 hu
 rfl
theorem run_app8 {w:World} {B:Nat} {v:Value} {xs ys:List Int} {sa:Option Addr} {m c:Nat} {ty:TypeId} (hown:Own8 w B v xs) (hsrc:Src w sa m ys) (hlen:xs.length+m≤140737488355328) (hbase:B≤w.heap.size) :
  ∃ v' w',(Builtin.append_ #[24, 24] ty #[v, .slice sa m c]).run Tryd.prog w = .ok v' w'∧Own8 w' B v' (xs ++ ys)∧w.grownBy w' v.ownBlock ∧
   (v' = .slice none 0 0↔v = .slice none 0 0∧m=0)∧(v'.ownBlock=v.ownBlock∨v'.ownBlock=some w.heap.size):=by
 obtain ⟨i0,hi,hz0,hz1,hz2⟩:=info_parts info_u8
 cases sa with
 | none =>
  have h0:m=0:=by
   rcases Nat.eq_zero_or_pos m with h0|h0
   ·exact h0
   ·obtain ⟨_,he,_⟩:=hsrc.cell 0 h0
    cases he
  have hy:ys=[]:=List.eq_nil_of_length_eq_zero (hsrc.len.trans h0)
  subst hy
  subst h0
  refine ⟨v,w,?_,by rw [List.append_nil];exact hown,⟨rfl,rfl,rfl,Nat.le_refl _,fun _ _ _=>rfl⟩,by simp, .inl rfl⟩
  rcases hown.2 with ⟨rfl,h0⟩|⟨g,cap,cur,rfl,_,_,hnc,_⟩
  ·simp [Builtin.append_,run_underlying Tryd.underlying24, sizeOf,typeInfo,hi,Builtin.lenOf,Builtin.firstCells]
  ·simp [Builtin.append_,run_underlying Tryd.underlying24, sizeOf,typeInfo,hi,Builtin.lenOf,Builtin.firstCells,hnc,storeCells]
 | some a =>
  obtain ⟨v',w',h1,h2,h3,h4,h5⟩:=run_append_own_at (P := Tryd.prog) w B 24 ty 5 i0 (.int .u8 0) 1 1 Tryd.underlying24 hi hz0 hz1 hz2 rfl (by decide) v xs.length (xs.map (Value.int .u8)) hown a m c (ys.map (Value.int .u8))
   (by simp [hsrc.len]) (src_news hsrc a rfl) (one_ints _ _) (by unfold maxLen;omega) (by omega) hbase
  refine ⟨v',w',h1,?_,h3,h4,h5⟩
  unfold Own8
  rw [List.length_append,hsrc.len,List.map_append]
  exact h2
/-- append onto bytes of the call's own, whatever the source. -/
theorem wp_app8 {w:World} {o:Oper} {a:Act} {K:Act→World→Prop} {Q:Exit→Act→World→Prop} (s x:Operand)
  (ho:o.op = .call { callee := .builtin .append,args := #[s,x],argTypes := #[24, 24] })
  (B:Nat) (v:Value) (xs:List Int) (hs:a.eval s=v) (hown:Own8 w B v xs) (sa:Option Addr) (m c:Nat) (ys:List Int) (hx:a.eval x = .slice sa m c) (hsrc:Src w sa m ys)
  (hlen:xs.length+m≤140737488355328) (hbase:B≤w.heap.size)
  (h:∀ v' w',Own8 w' B v' (xs ++ ys)→w.grownBy w' v.ownBlock→(v' = .slice none 0 0↔v = .slice none 0 0∧m=0)→(v'.ownBlock=v.ownBlock∨v'.ownBlock=some w.heap.size)→K (a.put o.dst v') w'):o.wp Tryd.prog a w K Q:=by
 obtain ⟨v',w',hr,h2,h3,h4,h5⟩:=run_app8 (ty:=o.type) (c:=c) hown hsrc hlen hbase
 unfold Oper.wp execOp
 simp only [ho,resolve,invoke,builtin,Sem.run_bind,Sem.run_pure,Result.andThen_ok,List.map_toArray,List.map_cons,List.map_nil,hs,hx,hr]
 exact h v' w' h2 h3 h4 h5
theorem wpList_app8 {w:World} {ops:Array Oper} {rest:List Oper} {o:Oper} {a:Act} {Q:Exit→Act→World→Prop} (hgd:o.guard=none) (s x:Operand)
  (ho:o.op = .call { callee := .builtin .append,args := #[s,x],argTypes := #[24, 24] })
  (B:Nat) (v:Value) (xs:List Int) (hs:a.eval s=v) (hown:Own8 w B v xs) (sa:Option Addr) (m c:Nat) (ys:List Int) (hx:a.eval x = .slice sa m c) (hsrc:Src w sa m ys)
  (hlen:xs.length+m≤140737488355328) (hbase:B≤w.heap.size)
  (h:∀ v' w',Own8 w' B v' (xs ++ ys)→w.grownBy w' v.ownBlock→(v' = .slice none 0 0↔v = .slice none 0 0∧m=0)→(v'.ownBlock=v.ownBlock∨v'.ownBlock=some w.heap.size)→wpList Tryd.prog ops Q rest (a.put o.dst v') w') :
  wpList Tryd.prog ops Q (o :: rest) a w :=
 wpList_plain hgd fun _ hK=>wp_app8 s x ho B v xs hs hown sa m c ys hx hsrc hlen hbase fun v' w' h2 h3 h4 h5=>hK _ _ (h v' w' h2 h3 h4 h5)
theorem step_app8 {w:World} {ops:Array Oper} {o:Oper} {a:Act} {K:Act→World→Prop} {Q:Exit→Act→World→Prop} {E:Prop} (hgd:o.guard=none) (s x:Operand)
  (ho:o.op = .call { callee := .builtin .append,args := #[s,x],argTypes := #[24, 24] })
  (B:Nat) (v:Value) (xs:List Int) (hs:a.eval s=v) (hown:Own8 w B v xs) (sa:Option Addr) (m c:Nat) (ys:List Int) (hx:a.eval x = .slice sa m c) (hsrc:Src w sa m ys)
  (hlen:xs.length+m≤140737488355328) (hbase:B≤w.heap.size)
  (h:∀ v' w',Own8 w' B v' (xs ++ ys)→w.grownBy w' v.ownBlock→(v' = .slice none 0 0↔v = .slice none 0 0∧m=0)→(v'.ownBlock=v.ownBlock∨v'.ownBlock=some w.heap.size)→K (a.put o.dst v') w') :
  if Region.wanted o (yielded ops a.tmps)=true then Oper.wp Tryd.prog o a w K Q else E:=by
 have hw:Region.wanted o (yielded ops a.tmps)=true:=by simp [Region.wanted,hgd]
 rw [if_pos hw]
 exact wp_app8 s x ho B v xs hs hown sa m c ys hx hsrc hlen hbase h
/-- Behind such an append: nothing below B has turned. -/
theorem app8_below {w w' w0:World} {B:Nat} {v:Value} {xs:List Int} (hown:Own8 w B v xs) (hg:w.grownBy w' v.ownBlock) (hb:Below B w0 w) (hB:B≤w.heap.size):Below B w0 w' :=
 hb.grown hg hB (fun k hk=>(hown.lt k hk).1)
/-- A byte in a block of its own. -/
theorem src_one (w:World) (x:Int):Src (w.alloc (.cells #[.int .u8 x] 5)) (some ⟨w.heap.size,0,none⟩) 1 [x]:=by
 refine ⟨rfl,fun i hi=>⟨_,rfl,?_⟩⟩
 obtain rfl:i=0:=by omega
 rw [show (⟨w.heap.size,0,none⟩:Addr).add 0=⟨w.heap.size,0,none⟩ from rfl,cell_blk (blk_new w _)]
 rfl
end Go.Proofs.YtodnkallpfkdiaaDoor
namespace Go.Proofs.YtodnkallpfkdiaaDoor
open Go.RowKit
/-- The cells of an array of integers. -/
def arr (k:IntKind) (xs:List Int):Array Value:=(xs.map (Value.int k)).toArray
theorem arr_size (k:IntKind) (xs:List Int):(arr k xs).size=xs.length:=by simp [arr]
theorem arr_get (k:IntKind) (xs:List Int) (i:Nat) (h:i < xs.length):(arr k xs)[i]? = some (.int k (xs.getD i 0)):=by simp [arr,List.getD,h]
theorem all_range_int:∀ (xs ys:List Int),xs.length=ys.length→((List.range xs.length).all fun i=>xs.getD i 0 == ys.getD i 0)=(xs == ys)
 | [],[],_=>rfl
 | x :: xs,y :: ys,h=>by
  have ih:=all_range_int xs ys (by simpa using h)
  rw [List.length_cons,List.range_succ_eq_map,List.all_cons,List.all_map]
  simp only [List.getD_cons_zero,Function.comp_def,List.getD_cons_succ,ih]
  simp [List.cons_beq_cons]
 | [],_ :: _,h=>by simp at h
 | _ :: _,[],h=>by simp at h
section
variable {P:Program} (w:World)
theorem run_equalIn_arr (d:Nat) (t e:TypeId) (n:Nat) (k k':IntKind) (ht:P.underlying t=some (.array n e)) (he:P.underlying e=some (.int k')) (hsz:∀ w,(sizeOf e).run P w = .ok 1 w)
  (xs ys:List Int) (hx:xs.length=n) (hy:ys.length=n) :
  (Op.equalIn (d+2) t (.agg (arr k xs)) (.agg (arr k ys))).run P w = .ok (xs == ys) w:=by
 rw [← all_range_int xs ys (hx.trans hy.symm),hx,List.range_eq_range',Op.equalIn]
 simp only [Sem.run_bind,run_underlying ht,Result.andThen_ok,hsz,Std.Legacy.Range.forIn_eq_forIn_range',Std.Legacy.Range.size,Nat.sub_zero,Nat.add_sub_cancel,Nat.div_one]
 have hl:∀ i∈List.range' 0 n 1,i < n:=fun i hi=>by simpa using (List.mem_range'_1.1 hi).2
 generalize List.range' 0 n 1=l at hl ⊢
 induction l with
 | nil=>simp
 | cons i l ih =>
  have hi:i < n:=hl i (by simp)
  have px:(part e (arr k xs) (i * 1)).run P w = .ok (.int k (xs.getD i 0)) w:=by
   simp [part,isAgg,run_underlying he,arr,List.getD,List.getElem?_eq_getElem (show i < xs.length by omega)]
  have py:(part e (arr k ys) (i * 1)).run P w = .ok (.int k (ys.getD i 0)) w:=by
   simp [part,isAgg,run_underlying he,arr,List.getD,List.getElem?_eq_getElem (show i < ys.length by omega)]
  have pe:(Op.equalIn (d+1) e (.int k (xs.getD i 0)) (.int k (ys.getD i 0))).run P w = .ok (xs.getD i 0 == ys.getD i 0) w :=
   run_equalIn_int w d e k k' _ _ he
  simp only [List.forIn_cons,Sem.run_bind,px,py,pe,Result.andThen_ok,List.all_cons]
  cases hb:(xs.getD i 0 == ys.getD i 0)
  ·simp
  ·simp only [Bool.not_true,Bool.false_eq_true,if_false,Sem.run_pure,Result.andThen_ok,Bool.true_and]
   exact ih fun j hj=>hl j (by simp [hj])
theorem run_eql_arr (t e:TypeId) (n:Nat) (k k':IntKind) (ht:P.underlying t=some (.array n e)) (he:P.underlying e=some (.int k')) (hsz:∀ w,(sizeOf e).run P w = .ok 1 w)
  (xs ys:List Int) (hx:xs.length=n) (hy:ys.length=n) :
  (binOp .eql t (.agg (arr k xs)) (.agg (arr k ys))).run P w = .ok (.bool (xs == ys)) w:=by
 rw [run_eql_struct,run_equalIn_arr w 9998 t e n k k' ht he hsz xs ys hx hy]
 rfl
theorem run_neq_arr (t e:TypeId) (n:Nat) (k k':IntKind) (ht:P.underlying t=some (.array n e)) (he:P.underlying e=some (.int k')) (hsz:∀ w,(sizeOf e).run P w = .ok 1 w)
  (xs ys:List Int) (hx:xs.length=n) (hy:ys.length=n) :
  (binOp .neq t (.agg (arr k xs)) (.agg (arr k ys))).run P w = .ok (.bool (!(xs == ys))) w:=by
 rw [run_neq_struct,run_equalIn_arr w 9998 t e n k k' ht he hsz xs ys hx hy]
 rfl
end
/-- '==' of two arrays of integers, for the walk, which would lay the comparison open. -/
theorem wpList_eql_arr {P:Program} {ops:Array Oper} {rest:List Oper} {o:Oper} {a:Act} {w:World} {Q:Exit→Act→World→Prop} (hgd:Region.wanted o (yielded ops a.tmps)=true) (t ty e:TypeId) (x y:Operand) (ho:o.op = .binOp .eql t x y ty) (n:Nat) (k k':IntKind)
  (ht:P.underlying t=some (.array n e)) (he:P.underlying e=some (.int k')) (hsz:∀ w,(sizeOf e).run P w = .ok 1 w) (hm:P.eqGuardType P.depth t=false)
  (xs ys:List Int) (hx:a.eval x = .agg (arr k xs)) (hy:a.eval y = .agg (arr k ys)) (lx:xs.length=n) (ly:ys.length=n) (b:Bool) (hb:(xs == ys)=b)
  (h:wpList P ops Q rest (a.put o.dst (.bool b)) w):wpList P ops Q (o :: rest) a w:=by
 unfold wpList
 rw [if_pos hgd]
 left
 unfold Oper.wp
 simp only [execOp,ho,hx,hy,Sem.run_bind,run_eqGuard_agg w .eql t x y _ _ hm,Result.andThen_ok,run_eql_arr w t e n k k' ht he hsz xs ys lx ly,hb]
 exact h
/-- A build whose run is known by an equation: for the walk, which would lay the build open. -/
theorem wpList_build {P:Program} {ops:Array Oper} {rest:List Oper} {o:Oper} {a:Act} {w:World} {Q:Exit→Act→World→Prop} (hgd:Region.wanted o (yielded ops a.tmps)=true) (t:TypeId) (ps:Array (Nat×Operand)) (ho:o.op = .build t ps)
  (vs:Array (Nat×Value)) (hvs:ps.toList.map (fun p=>(p.1,a.eval p.2))=vs.toList) (v:Value) (hrun:(Instr.build t vs).run P w = .ok v w) (h:wpList P ops Q rest (a.put o.dst v) w):wpList P ops Q (o :: rest) a w:=by
 unfold wpList
 rw [if_pos hgd]
 left
 unfold Oper.wp
 have hv:ps.map (fun p=>(p.1,a.eval p.2))=vs:=by apply Array.toList_inj.1;rw [Array.toList_map];exact hvs
 simp only [execOp,ho,hv,Sem.run_bind,hrun,Result.andThen_ok]
 exact h
theorem kept_setCells {T:Nat→Prop} {a:World} (b:Nat):∀ (vs:List Value) (o:Nat) (w:World),Kept T a w→(T b∨a.heap.size≤b)→Kept T a (w.setCells b o vs)
 | [],_,_,h,_=>h
 | v :: vs,o,_,h,hb=>kept_setCells b vs (o+1) _ (h.setCell (p:=⟨b,o,none⟩) hb v) hb
theorem blk_setCells (b:Nat) (t:TypeId) (fr:Nat×Nat):∀ (vs:List Value) (o:Nat) (w:World) (c:Array Value),w.heap[b]? = some (.cells c t fr)→o+vs.length≤c.size →
  (w.setCells b o vs).heap[b]? = some (.cells (c.toList.take o ++ vs ++ c.toList.drop (o+vs.length)).toArray t fr)
 | [],o,_,c,h,_=>by
  rw [World.setCells,h]
  simp
 | v :: vs,o,_,c,h,hl=>by
  rw [World.setCells,blk_setCells b t fr vs (o+1) _ (c.setIfInBounds o v) (blk_setCell h v) (by simp at hl ⊢; omega)]
  simp only [List.length_cons] at hl
  have hlen:o < c.toList.length:=by simp;omega
  simp only [Array.toList_setIfInBounds,List.length_cons]
  rw [List.take_succ_eq_append_getElem (by simpa using hlen),List.take_set_of_le (by omega),List.drop_set_of_lt (by omega)]
  simp [Nat.add_assoc,Nat.add_comm 1]
/-- Cells laid over a row, one by one. -/
theorem fold_set:∀ (l:List Value) (cs:Array Value) (off m:Nat),off+m+l.length≤cs.size →
  ((l.zipIdx m).foldl (fun (cs:Array Value) (x:Value×Nat)=>cs.setIfInBounds (off+x.2) x.1) cs).toList=cs.toList.take (off+m) ++ l ++ cs.toList.drop (off+m+l.length)
 | [],cs,off,m,_=>by simp
 | v :: l,cs,off,m,h=>by
  rw [List.zipIdx_cons,List.foldl_cons,fold_set l _ off (m+1) (by simp at h ⊢; omega)]
  simp only [Array.toList_setIfInBounds,List.length_cons]
  simp only [List.length_cons] at h
  have hlen:off+m < cs.toList.length:=by simp;omega
  rw [show off+(m+1)=(off+m)+1 by omega,List.take_succ_eq_append_getElem (by simpa using hlen),List.take_set_of_le (by omega),List.drop_set_of_lt (by omega)]
  simp [Nat.add_assoc,Nat.add_comm 1]
/-- One part of a build: its cells over the row at its place. -/
theorem fill_cons (place:Nat→Option (Nat×Nat)) (cells:Array Value) (i:Nat) (v:Value) (rest:List (Nat×Value)) (off:Nat) (hp:place i=some (off,v.cells.size)) (hsz:off+v.cells.size≤cells.size) :
  Instr.fill place cells ((i,v) :: rest)=Instr.fill place (cells.toList.take off ++ v.cells.toList ++ cells.toList.drop (off+v.cells.size)).toArray rest:=by
 rw [Instr.fill,hp]
 simp only [ne_eq,not_true_eq_false,decide_false,Bool.false_or,decide_eq_true_eq,gt_iff_lt]
 rw [if_neg (by omega)]
 congr 1
 apply Array.toList_inj.1
 have:=fold_set v.cells.toList cells off 0 (by simpa using hsz)
 simp only [Nat.add_zero,Array.length_toList] at this
 rw [← this,← Array.foldl_toList,Array.toList_zipIdx]
end Go.Proofs.YtodnkallpfkdiaaDoor
namespace Go.Proofs.YtodnkallpfkdiaaDoor
open Go.RowKit
theorem arr_toList (k:IntKind) (xs:List Int):(arr k xs).toList=xs.map (Value.int k):=rfl
theorem all_arr (k:IntKind) (xs:List Int):(arr k xs).all (·.oneCell')=true :=
 all_oneCell_toArray (by intro v hv;obtain ⟨y,_,rfl⟩:=List.mem_map.1 hv;rfl)
section
variable {P:Program}
theorem wpList_alloc_row {ops:Array Oper} {rest:List Oper} {o:Oper} {a:Act} {w:World} {Q:Exit→Act→World→Prop} (hgd:o.guard=none) (t:TypeId) (ho:o.op = .alloc t)
  (z:Array Value) (hz:(zeroValue t).run P w = .ok (.agg z) w) (h:wpList P ops Q rest (a.put o.dst (.pointer (some ⟨w.heap.size,0,none⟩))) (w.alloc (.cells z t))):wpList P ops Q (o :: rest) a w:=by
 refine wpList_plain hgd fun K hK=>?_
 unfold Oper.wp execOp
 simp only [ho,Instr.alloc,Sem.run_bind,hz,Result.andThen_ok]
 exact hK _ _ h
/-- A store of a long array over a part of a block that is known whole. -/
theorem wpList_store_part {ops:Array Oper} {rest:List Oper} {o:Oper} {a:Act} {w:World} {Q:Exit→Act→World→Prop} (hgd:o.guard=none) (ty:TypeId) (x y:Operand) (ho:o.op = .store ty x y)
  (g off:Nat) (cs ds:Array Value) (t:TypeId) (hb:w.heap[g]? = some (.cells cs t (0,0))) (hx:a.eval x = .pointer (some ⟨g,off,none⟩)) (hy:a.eval y = .agg ds)
  (hs:off+ds.size≤cs.size) (hi:(P.info? ty).map (·.size)=some ds.size) (h1:ds.all (·.oneCell')=true)
  (h:∀ w',w'.heap[g]? = some (.cells (cs.toList.take off ++ ds.toList ++ cs.toList.drop (off+ds.size)).toArray t (0,0))→Kept (fun i=>i=g) w w'→w'.heap.size=w.heap.size→wpList P ops Q rest (a.put o.dst undef) w') :
  wpList P ops Q (o :: rest) a w:=by
 refine wpList_store_mid hgd ty x y ho g off ds hx hy (fun j hj=>?_) hi h1 (h _ ?_ ?_ ?_)
 ·rw [cell_blk hb]
  exact ⟨by rw [Array.getElem?_eq_getElem (by omega)];rfl,free_blk hb _⟩
 ·rw [blk_setCells _ _ _ _ _ _ _ hb (by simpa using hs)]
  simp
 ·exact kept_setCells g _ _ _ (Kept.refl _ _) (.inl rfl)
 ·have:∀ (vs:List Value) (o:Nat) (w:World),(w.setCells g o vs).heap.size=w.heap.size:=by
   intro vs
   induction vs with
   | nil=>intro o w;rfl
   | cons v vs ih=>intro o w;rw [World.setCells,ih];simp [World.setCell]
  exact this _ _ _
/-- A store of a long array over a whole block. -/
theorem wpList_store_whole {ops:Array Oper} {rest:List Oper} {o:Oper} {a:Act} {w:World} {Q:Exit→Act→World→Prop} (hgd:o.guard=none) (ty:TypeId) (x y:Operand) (ho:o.op = .store ty x y)
  (g:Nat) (cs ds:Array Value) (t:TypeId) (hb:w.heap[g]? = some (.cells cs t (0,0))) (hx:a.eval x = .pointer (some ⟨g,0,none⟩)) (hy:a.eval y = .agg ds)
  (hs:ds.size=cs.size) (hi:(P.info? ty).map (·.size)=some ds.size) (h1:ds.all (·.oneCell')=true)
  (h:∀ w',w'.heap[g]? = some (.cells ds t (0,0))→Kept (fun i=>i=g) w w'→w'.heap.size=w.heap.size→wpList P ops Q rest (a.put o.dst undef) w') :
  wpList P ops Q (o :: rest) a w:=by
 refine wpList_store_part hgd ty x y ho g 0 cs ds t hb hx hy (by omega) hi h1 fun w' h2 h3 h4=>h w' ?_ h3 h4
 rw [h2]
 congr 2
 have:cs.toList.drop ds.size=[]:=List.drop_eq_nil_of_le (by simp [hs])
 simp [this]
/-- A part of a block that is known whole. -/
theorem range_part {w:World} {g:Nat} {cs:Array Value} {t:TypeId} {fr:Nat×Nat} (hb:w.heap[g]? = some (.cells cs t fr)) (off:Nat) (xs:List Value) (hx:(cs.toList.drop off).take xs.length=xs):w.rangeAt g off xs:=by
 intro j v hj
 rw [cell_blk hb]
 have hl:j < xs.length:=(List.getElem?_eq_some_iff.1 hj).1
 have:=congrArg (fun l=>l[j]?) hx
 simp only [List.getElem?_take,hl,if_true,List.getElem?_drop,hj] at this
 simpa using this
theorem wpList_load_part {ops:Array Oper} {rest:List Oper} {o:Oper} {a:Act} {w:World} {Q:Exit→Act→World→Prop} (hgd:o.guard=none) (ty:TypeId) (x:Operand) (ho:o.op = .load ty x)
  (g off:Nat) (cs:Array Value) (t:TypeId) (fr:Nat×Nat) (d:TypeDesc) (hb:w.heap[g]? = some (.cells cs t fr)) (hx:a.eval x = .pointer (some ⟨g,off,none⟩)) (k:IntKind) (xs:List Int)
  (hp:(cs.toList.drop off).take xs.length=xs.map (Value.int k)) (hu:P.underlying ty=some d) (hd:d.isRow=true) (hi:(P.info? ty).map (·.size)=some xs.length)
  (h:wpList P ops Q rest (a.put o.dst (.agg (arr k xs))) w):wpList P ops Q (o :: rest) a w :=
 wpList_load_mid hgd ty x ho g off hx (xs.map (Value.int k)) d (range_part hb off _ (by rw [List.length_map];exact hp)) hu hd (by rw [List.length_map];exact hi) h
theorem run_index_arr (w:World) (t e:TypeId) (n:Nat) (k k' ik:IntKind) (ht:P.underlying t=some (.array n e)) (he:P.underlying e=some (.int k')) (hsz:∀ w,(sizeOf e).run P w = .ok 1 w)
  (xs:List Int) (hx:xs.length=n) (j:Nat) (hj:j < n):(Instr.index t (.agg (arr k xs)) (.int ik j)).run P w = .ok (.int k (xs.getD j 0)) w:=by
 simp only [Instr.index,asIntOf,Sem.run_bind,Sem.run_pure,Result.andThen_ok,run_underlying ht]
 rw [if_pos (by omega)]
 simp only [Sem.run_bind,hsz,Result.andThen_ok,Int.toNat_natCast,Nat.mul_one]
 simp [part,isAgg,run_underlying he,arr,List.getD,List.getElem?_eq_getElem (show j < xs.length by omega)]
end
end Go.Proofs.YtodnkallpfkdiaaDoor
namespace Go.Proofs.YtodnkallpfkdiaaDoor
open Go.RowKit
/-- n lists of bytes lie behind the address sa (whatever it is where there are none). -/
structure SrcL (w:World) (sa:Option Addr) (n:Nat) (L:List (List Int)):Prop where
 len:L.length=n
 cell:∀ i,i < n→∃ a si ci,sa=some a∧w.cell? (a.add i)=some (.slice si (L.getD i []).length ci)∧(L.getD i []).length≤ci∧Src w si (L.getD i []).length (L.getD i [])
theorem SrcL.below {w w':World} {sa:Option Addr} {n:Nat} {L:List (List Int)} (h:SrcL w sa n L) (k:Below w.heap.size w w'):SrcL w' sa n L:=by
 refine ⟨h.len,fun i hi=>?_⟩
 obtain ⟨a,si,ci,h1,h2,h3,h4⟩:=h.cell i hi
 exact ⟨a,si,ci,h1,(k.cell (World.block_lt_of_cell? w _ h2)).trans h2,h3,h4.below k⟩
def bytes (xs:List Int):Prop:=∀ x∈xs,0≤x∧x≤255
theorem bytes_at {xs:List Int} (h:bytes xs) (i:Nat):0≤xs.getD i 0∧xs.getD i 0≤255:=by
 simp only [List.getD]
 cases e:xs[i]? with
 | none=>simp
 | some y=>simpa using h y (List.mem_of_getElem? e)
theorem take_snoc {α:Type} (xs:List α) (i:Nat) (d:α) (h:i < xs.length):xs.take (i+1)=xs.take i ++ [xs.getD i d]:=by
 rw [List.take_succ_eq_append_getElem h]
 simp [List.getD,h]
theorem flat_snoc (L:List (List Int)) (i:Nat) (h:i < L.length):(L.take (i+1)).flatten=(L.take i).flatten ++ L.getD i []:=by
 rw [take_snoc L i [] h,List.flatten_append]
 simp
theorem flat_le (L:List (List Int)) (i:Nat) (h:i < L.length):(L.take i).flatten.length+(L.getD i []).length≤L.flatten.length:=by
 have e:=congrArg List.length (flat_snoc L i h)
 rw [List.length_append] at e
 rw [← e]
 have e2:L.flatten=(L.take (i+1)).flatten ++ (L.drop (i+1)).flatten:=by rw [← List.flatten_append,List.take_append_drop]
 rw [e2,List.length_append]
 omega
end Go.Proofs.YtodnkallpfkdiaaDoor
namespace Go.Proofs.YtodnkallpfkdiaaDoor
open Go.RowKit
section
variable {P:Program}
theorem step_alloc_row {ops:Array Oper} {o:Oper} {a:Act} {w:World} {K:Act→World→Prop} {Q:Exit→Act→World→Prop} {E:Prop} (hgd:o.guard=none) (t:TypeId) (ho:o.op = .alloc t)
  (z:Array Value) (hz:(zeroValue t).run P w = .ok (.agg z) w) (h:K (a.put o.dst (.pointer (some ⟨w.heap.size,0,none⟩))) (w.alloc (.cells z t))) :
  if Region.wanted o (yielded ops a.tmps)=true then Oper.wp P o a w K Q else E:=by
 have hw:Region.wanted o (yielded ops a.tmps)=true:=by simp [Region.wanted,hgd]
 rw [if_pos hw]
 unfold Oper.wp execOp
 simp only [ho,Instr.alloc,Sem.run_bind,hz,Result.andThen_ok]
 exact h
theorem step_store_whole {ops:Array Oper} {o:Oper} {a:Act} {w:World} {K:Act→World→Prop} {Q:Exit→Act→World→Prop} {E:Prop} (hgd:o.guard=none) (ty:TypeId) (x y:Operand) (ho:o.op = .store ty x y)
  (g:Nat) (cs ds:Array Value) (t:TypeId) (hb:w.heap[g]? = some (.cells cs t (0,0))) (hx:a.eval x = .pointer (some ⟨g,0,none⟩)) (hy:a.eval y = .agg ds)
  (hs:ds.size=cs.size) (hi:(P.info? ty).map (·.size)=some ds.size) (h1:ds.all (·.oneCell')=true)
  (h:∀ w',w'.heap[g]? = some (.cells ds t (0,0))→Kept (fun i=>i=g) w w'→w'.heap.size=w.heap.size→K (a.put o.dst undef) w') :
  if Region.wanted o (yielded ops a.tmps)=true then Oper.wp P o a w K Q else E:=by
 have hw:Region.wanted o (yielded ops a.tmps)=true:=by simp [Region.wanted,hgd]
 rw [if_pos hw]
 refine wp_store_mid ty x y ho g 0 ds hx hy (fun j hj=>?_) hi h1 (h _ ?_ ?_ ?_)
 ·rw [cell_blk hb]
  exact ⟨by rw [Array.getElem?_eq_getElem (by omega)];rfl,free_blk hb _⟩
 ·rw [blk_setCells _ _ _ _ _ _ _ hb (by simp [hs])]
  have e:cs.toList.drop (0+ds.toList.length)=[]:=List.drop_eq_nil_of_le (by simp [hs])
  rw [e]
  simp
 ·exact kept_setCells g _ _ _ (Kept.refl _ _) (.inl rfl)
 ·have:∀ (vs:List Value) (o:Nat) (w:World),(w.setCells g o vs).heap.size=w.heap.size:=by
   intro vs
   induction vs with
   | nil=>intro o w;rfl
   | cons v vs ih=>intro o w;rw [World.setCells,ih];simp [World.setCell]
  exact this _ _ _
theorem step_load_part {ops:Array Oper} {o:Oper} {a:Act} {w:World} {K:Act→World→Prop} {Q:Exit→Act→World→Prop} {E:Prop} (hgd:o.guard=none) (ty:TypeId) (x:Operand) (ho:o.op = .load ty x)
  (g off:Nat) (cs:Array Value) (t:TypeId) (fr:Nat×Nat) (d:TypeDesc) (hb:w.heap[g]? = some (.cells cs t fr)) (hx:a.eval x = .pointer (some ⟨g,off,none⟩)) (k:IntKind) (xs:List Int)
  (hp:(cs.toList.drop off).take xs.length=xs.map (Value.int k)) (hu:P.underlying ty=some d) (hd:d.isRow=true) (hi:(P.info? ty).map (·.size)=some xs.length)
  (h:K (a.put o.dst (.agg (arr k xs))) w):if Region.wanted o (yielded ops a.tmps)=true then Oper.wp P o a w K Q else E:=by
 have hw:Region.wanted o (yielded ops a.tmps)=true:=by simp [Region.wanted,hgd]
 rw [if_pos hw]
 exact wp_load_mid ty x ho g off hx (xs.map (Value.int k)) d (range_part hb off _ (by rw [List.length_map];exact hp)) hu hd (by rw [List.length_map];exact hi) h
end
end Go.Proofs.YtodnkallpfkdiaaDoor
namespace Go.Proofs.YtodnkallpfkdiaaDoor.Lm
open Go.RowKit
/-- What a row of digits is worth, to the base b. -/
def val (b:Nat):List Nat→Nat
 | []=>0
 | x :: xs=>x+b * val b xs
/-- The n lowest digits. -/
def dig (b:Nat):Nat→Nat→List Nat
 | 0,_=>[]
 | n+1,v=>v % b :: dig b n (v / b)
theorem dig_len (b:Nat):∀ n v,(dig b n v).length=n
 | 0,_=>rfl
 | n+1,v=>by simp [dig,dig_len b n]
theorem val_dig (b:Nat):∀ n v,val b (dig b n v)=v % b ^ n
 | 0,v=>by simp [dig,val,Nat.mod_one]
 | n+1,v=>by
  rw [dig,val,val_dig b n,Nat.pow_succ,Nat.mul_comm (b ^ n) b,Nat.mod_mul]
theorem dig_lt (b:Nat) (hb:0 < b):∀ n v,∀ x∈dig b n v,x < b
 | 0,_,x,h=>by simp [dig] at h
 | n+1,v,x,h=>by
  rw [dig,List.mem_cons] at h
  rcases h with rfl|h
  ·exact Nat.mod_lt _ hb
  ·exact dig_lt b hb n _ x h
theorem val_lt (b:Nat):∀ xs:List Nat,(∀ x∈xs,x < b)→val b xs < b ^ xs.length
 | [],_=>by simp [val]
 | x :: xs,h=>by
  have h1:=h x (by simp)
  have h2:=val_lt b xs (fun y hy=>h y (by simp [hy]))
  rw [val,List.length_cons,Nat.pow_succ]
  have h3:b * (val b xs+1)≤b * b ^ xs.length:=Nat.mul_le_mul_left b h2
  rw [Nat.mul_comm (b ^ xs.length) b]
  rw [Nat.mul_add] at h3
  omega
theorem dig_val (b:Nat) (hb:0 < b):∀ xs:List Nat,(∀ x∈xs,x < b)→dig b xs.length (val b xs)=xs
 | [],_=>rfl
 | x :: xs,h=>by
  have h1:=h x (by simp)
  rw [List.length_cons,dig,val,Nat.add_mul_mod_self_left,Nat.mod_eq_of_lt h1,Nat.add_mul_div_left _ _ hb,Nat.div_eq_of_lt h1,Nat.zero_add,dig_val b hb xs (fun y hy=>h y (by simp [hy]))]
theorem dig_eq (b:Nat) (hb:0 < b) (n v:Nat) (xs:List Nat) (hl:xs.length=n) (h:∀ x∈xs,x < b) (hv:val b xs=v):xs=dig b n v:=by
 subst hl hv
 exact (dig_val b hb xs h).symm
theorem dig_get (b:Nat):∀ n v i,i < n→(dig b n v).getD i 0=v / b ^ i % b
 | 0,_,_,h=>by omega
 | n+1,v,0,_=>by simp [dig]
 | n+1,v,i+1,h=>by
  rw [dig,List.getD_cons_succ,dig_get b n _ i (by omega),Nat.div_div_eq_div_mul,Nat.pow_succ,Nat.mul_comm b]
theorem val_append (b:Nat):∀ xs ys:List Nat,val b (xs ++ ys)=val b xs+b ^ xs.length * val b ys
 | [],ys=>by simp [val]
 | x :: xs,ys=>by
  rw [List.cons_append,val,val,val_append b xs ys,List.length_cons,Nat.pow_succ]
  grind
theorem val_take_succ (b:Nat) (xs:List Nat) (i:Nat) (h:i < xs.length):val b (xs.take (i+1))=val b (xs.take i)+b ^ i * xs.getD i 0:=by
 rw [List.take_succ_eq_append_getElem h,val_append]
 simp [val,List.getD,h,Nat.min_eq_left (Nat.le_of_lt h)]
theorem val_take_set (b:Nat) (xs:List Nat) (i v:Nat) (h:i < xs.length):val b ((xs.set i v).take (i+1))=val b (xs.take i)+b ^ i * v:=by
 rw [val_take_succ _ _ _ (by simpa using h),List.take_set_of_le (Nat.le_refl i)]
 simp [List.getD,h]
theorem val_set (b:Nat):∀ (xs:List Nat) (i v:Nat),i < xs.length→val b (xs.set i v)+b ^ i * xs.getD i 0=val b xs+b ^ i * v
 | [],i,v,h=>by simp at h
 | x :: xs,0,v,_=>by
  simp [val]
  omega
 | x :: xs,i+1,v,h=>by
  have ih:=val_set b xs i v (by simpa using h)
  rw [List.set_cons_succ,val,val,List.getD_cons_succ,Nat.pow_succ]
  grind
theorem val_zeros (b n:Nat):val b (List.replicate n 0)=0:=by
 induction n with
 | zero=>rfl
 | succ n ih=>rw [List.replicate_succ,val,ih];simp
theorem lt_getD {b:Nat} {xs:List Nat} (h:∀ x∈xs,x < b) (hb:0 < b) (i:Nat):xs.getD i 0 < b:=by
 simp only [List.getD]
 cases e:xs[i]? with
 | none=>simpa using hb
 | some y=>simpa using h y (List.mem_of_getElem? e)
theorem lt_set {b:Nat} {xs:List Nat} (h:∀ x∈xs,x < b) (i v:Nat) (hv:v < b):∀ x∈xs.set i v,x < b:=by
 intro x hx
 rcases List.mem_or_eq_of_mem_set hx with h1|rfl
 ·exact h x h1
 ·exact hv
/-- Digits as the model's integers. -/
def nar (xs:List Nat):List Int:=xs.map Int.ofNat
theorem nar_len (xs:List Nat):(nar xs).length=xs.length:=by simp [nar]
theorem nar_get (xs:List Nat) (i:Nat):(nar xs).getD i 0=((xs.getD i 0:Nat):Int):=by
 simp only [nar,List.getD,List.getElem?_map]
 cases xs[i]? <;> rfl
theorem nar_set (xs:List Nat) (i v:Nat):nar (xs.set i v)=(nar xs).set i (v:Int):=by simp [nar,List.map_set]
theorem nar_zeros (n:Nat):nar (List.replicate n 0)=List.replicate n 0:=by simp [nar]
/-- Whatever integers that are none below nought are digits. -/
theorem nar_of (xs:List Int) (h:∀ x∈xs,0≤x):nar (xs.map Int.toNat)=xs:=by
 induction xs with
 | nil=>rfl
 | cons x xs ih =>
  have h1:=h x (by simp)
  rw [List.map_cons,nar,List.map_cons]
  rw [show List.map Int.ofNat (List.map Int.toNat xs)=xs from ih (fun y hy=>h y (by simp [hy]))]
  congr 1
  exact Int.toNat_of_nonneg h1
/-- One step of a sum, digit by digit. -/
theorem add_step (b i X Y S x y c s c':Nat) (h:S+b ^ i * c=X+Y) (hs:s+b * c'=x+y+c):S+b ^ i * s+b ^ (i+1) * c'=(X+b ^ i * x)+(Y+b ^ i * y):=by
 rw [Nat.pow_succ]
 have:b ^ i * (s+b * c')=b ^ i * (x+y+c):=by rw [hs]
 grind
/-- One step of a difference. -/
theorem sub_step (b i X Y S x y c s c':Nat) (h:S+Y=X+b ^ i * c) (hs:s+y+c=x+b * c'):(S+b ^ i * s)+(Y+b ^ i * y)=(X+b ^ i * x)+b ^ (i+1) * c':=by
 rw [Nat.pow_succ]
 have:b ^ i * (s+y+c)=b ^ i * (x+b * c'):=by rw [hs]
 grind
end Go.Proofs.YtodnkallpfkdiaaDoor.Lm
namespace Go.Proofs.YtodnkallpfkdiaaDoor.Lm
open Go.RowKit Go.Shelf
def ren:Ren:=⟨fun _ => 153, fun t=>if t=46 then 89 else 123, fun g=>g⟩
theorem lays:Lays.n264 Tryd.prog ren where
 mixed:=by kernel_rfl
 f264 := Tryd.func153
 t46:=by kernel_rfl
 a46:=fun w=>by kernel_rfl
 z46:=fun w=>by kernel_rfl
 v46:=fun w=>by kernel_rfl
 t53:=by kernel_rfl
 a53:=fun w=>by kernel_rfl
 z53:=fun w=>by kernel_rfl
 v53:=fun w=>by kernel_rfl
theorem mul64 (x y:Nat) (hx:x < 18446744073709551616) (hy:y < 18446744073709551616) (w:World) :
  Calls Tryd.prog 153 #[.int .u64 x, .int .u64 y] w fun e w'=>e = .returned (.tuple #[.int .u64 ((x * y / 18446744073709551616:Nat):Int), .int .u64 ((x * y % 18446744073709551616:Nat):Int)])∧w'=w :=
 Any.bits_Mul64 lays x y hx hy w
theorem add64 (x y c:Nat) (hc:c≤1) (w:World) :
  (callFunc 154 #[.int .u64 x, .int .u64 y, .int .u64 c]).run Tryd.prog w =
   .ok (.value (.tuple #[.int .u64 (((x+y+c) % 18446744073709551616:Nat):Int), .int .u64 (((x+y+c) / 18446744073709551616:Nat):Int)])) w:=by
 rw [run_callFunc_extern Tryd.func154 (by kernel_rfl) (by kernel_rfl) (by kernel_rfl) (e:=add64Entry) (by kernel_rfl),run_add64 x y c (by omega) (by omega) (by omega) (by omega)]
 simp only [Result.andThen]
 congr 5 <;> omega
theorem sub64 (x y b:Nat) (hb:b≤1) (w:World) :
  (callFunc 165 #[.int .u64 x, .int .u64 y, .int .u64 b]).run Tryd.prog w =
   .ok (.value (.tuple #[.int .u64 (((x+18446744073709551616 - y - b) % 18446744073709551616:Nat):Int), .int .u64 ((if x < y+b then 1 else 0:Nat):Int)])) w:=by
 rw [run_callFunc_extern Tryd.func165 (by kernel_rfl) (by kernel_rfl) (by kernel_rfl) (e:=sub64Entry) (by kernel_rfl),run_sub64 x y b hb]
 rfl
end Go.Proofs.YtodnkallpfkdiaaDoor.Lm
namespace Go.Proofs.YtodnkallpfkdiaaDoor
open Go.RowKit
theorem results_cell_tmp_row {P:Program} {fn:Func} {p u:Tmp} {ty:TypeId} (h:fn.results = #[.cell p ty, .tmp u]) (tmps:Array Value) (w:World) (g:Nat) (t:TypeId) (cs:Array Value) (fr:Nat×Nat) (d:TypeDesc) (v:Value)
  (hp:tmps.getD p undef = .pointer (some ⟨g,0,none⟩)) (hg:w.heap[g]? = some (.cells cs t fr))
  (hu:P.underlying ty=some d) (hd:(match d with | .struct _ | .array _ _=>true|_=>false)=true) (hi:(P.info? ty).map (·.size)=some cs.size) (hv:tmps.getD u undef=v) :
  (results fn tmps).run P w = .ok (.tuple #[.agg cs,v]) w:=by
 rw [results_cell_tmp h,hp,hv]
 simp only [asAddr,Sem.run_pure,Result.andThen_ok,run_loadVar_row w g t ty cs fr d hg hu hd hi]
theorem arr_part (k:IntKind) (xs:List Int):((arr k xs).toList.drop 0).take xs.length=xs.map (Value.int k):=by rw [List.drop_zero,arr_toList,List.take_of_length_le (by simp)]
theorem blk_arr' {w:World} {g:Nat} {k:IntKind} {xs:List Int} {t:TypeId} {fr:Nat×Nat} (h:w.heap[g]? = some (.cells (arr k xs) t fr)) (i:Nat) (hi:i < xs.length):w.cell? ⟨g,i,none⟩=some (.int k (xs.getD i 0)):=(cell_blk h i).trans (arr_get _ _ _ hi)
theorem arr_set (k:IntKind) (xs:List Int) (i:Nat) (x:Int):(arr k xs).setIfInBounds i (.int k x)=arr k (xs.set i x):=by simp [arr,List.map_set]
/-- 2 blocks of the call's own. -/
structure B2 (w wr:World) (c0 c1:Array Value) (t0 t1:TypeId):Prop where
 b0:wr.heap[w.heap.size]? = some (.cells c0 t0 (0,0))
 b1:wr.heap[w.heap.size+1]? = some (.cells c1 t1 (0,0))
 below:Below w.heap.size w wr
theorem B2.start (w:World) (c0 c1:Array Value) (t0 t1:TypeId):B2 w ((w.alloc (.cells c0 t0)).alloc (.cells c1 t1)) c0 c1 t0 t1:=by
 have e1:∀ o0:Obj,(w.alloc o0).heap.size=w.heap.size+1:=by simp
 refine ⟨?_,?_,(((Below.refl _ w).alloc (by exact Nat.le_refl _) _).alloc (by rw [e1];omega) _)⟩
 ·exact blk_alloc (blk_new _ _) _
 ·rw [← e1 (.cells c0 t0)]
  exact blk_new _ _
theorem B2.drewN {w wr:World} {c0 c1:Array Value} {t0 t1:TypeId} (h:B2 w wr c0 c1 t0 t1) (k:Nat):B2 w (wr.drewN k) c0 c1 t0 t1:=⟨h.b0,h.b1,Go.Proofs.YtodnkallpfkdiaaDoor.Below.drewN h.below k⟩
theorem B2.drew {w wr:World} {c0 c1:Array Value} {t0 t1:TypeId} (h:B2 w wr c0 c1 t0 t1):B2 w wr.drew c0 c1 t0 t1:=⟨h.b0,h.b1,⟨h.below.os,h.below.tape,h.below.output,h.below.size,h.below.block⟩⟩
theorem B2.after {w wr w':World} {c0 c1:Array Value} {t0 t1:TypeId} (h:B2 w wr c0 c1 t0 t1) (b:Below wr.heap.size wr w'):B2 w w' c0 c1 t0 t1:=⟨Below.blk b h.b0 (blk_lt h.b0),Below.blk b h.b1 (blk_lt h.b1),h.below.trans (b.mono h.below.size)⟩
theorem B2.alloc {w wr:World} {c0 c1:Array Value} {t0 t1:TypeId} (h:B2 w wr c0 c1 t0 t1) (o:Obj):B2 w (wr.alloc o) c0 c1 t0 t1:=h.after ((Below.refl _ wr).alloc (Nat.le_refl _) o)
theorem B2.set0 {w wr:World} {c0 c1:Array Value} {t0 t1:TypeId} (h:B2 w wr c0 c1 t0 t1) (i:Nat) (v:Value):B2 w (wr.setCell ⟨w.heap.size,i,none⟩ v) (c0.setIfInBounds i v) c1 t0 t1:=⟨blk_setCell h.b0 v,blk_setCell_ne h.b1 _ (by omega),h.below.setCell (p:=⟨w.heap.size,i,none⟩) (by simp) _⟩
theorem B2.put0 {w wr w':World} {c0 c1 d:Array Value} {t0 t1:TypeId} (h:B2 w wr c0 c1 t0 t1) (k:Kept (fun x=>x=w.heap.size) wr w') (hd:w'.heap[w.heap.size]? = some (.cells d t0 (0,0))):B2 w w' d c1 t0 t1:=⟨hd,k.blk h.b1 (by omega),h.below.trans (k.toBelow h.below.size (by rintro i rfl;omega))⟩
theorem B2.set1 {w wr:World} {c0 c1:Array Value} {t0 t1:TypeId} (h:B2 w wr c0 c1 t0 t1) (i:Nat) (v:Value):B2 w (wr.setCell ⟨w.heap.size+1,i,none⟩ v) c0 (c1.setIfInBounds i v) t0 t1:=⟨blk_setCell_ne h.b0 _ (by omega),blk_setCell h.b1 v,h.below.setCell (p:=⟨w.heap.size+1,i,none⟩) (by simp) _⟩
theorem B2.put1 {w wr w':World} {c0 c1 d:Array Value} {t0 t1:TypeId} (h:B2 w wr c0 c1 t0 t1) (k:Kept (fun x=>x=w.heap.size+1) wr w') (hd:w'.heap[w.heap.size+1]? = some (.cells d t1 (0,0))):B2 w w' c0 d t0 t1:=⟨k.blk h.b0 (by omega),hd,h.below.trans (k.toBelow h.below.size (by rintro i rfl;omega))⟩
theorem B2.far {w wr:World} {c0 c1:Array Value} {t0 t1:TypeId} (h:B2 w wr c0 c1 t0 t1) (g i:Nat) (v:Value) (hg:w.heap.size+1 < g):B2 w (wr.setCell ⟨g,i,none⟩ v) c0 c1 t0 t1:=⟨blk_setCell_ne h.b0 _ (by omega),blk_setCell_ne h.b1 _ (by omega),h.below.setCell (p:=⟨g,i,none⟩) (by simp;omega) _⟩
theorem B2.farK {w wr w':World} {c0 c1:Array Value} {t0 t1:TypeId} {T:Nat→Prop} (h:B2 w wr c0 c1 t0 t1) (k:Kept T wr w') (hT:∀ i,T i→w.heap.size+1 < i):B2 w w' c0 c1 t0 t1:=⟨k.blk h.b0 (fun e=>by have:=hT _ e;omega),k.blk h.b1 (fun e=>by have:=hT _ e;omega),h.below.trans (k.toBelow h.below.size (fun i hi=>by have:=hT i hi;omega))⟩
/-- 3 blocks of the call's own. -/
structure B3 (w wr:World) (c0 c1 c2:Array Value) (t0 t1 t2:TypeId):Prop where
 b0:wr.heap[w.heap.size]? = some (.cells c0 t0 (0,0))
 b1:wr.heap[w.heap.size+1]? = some (.cells c1 t1 (0,0))
 b2:wr.heap[w.heap.size+1+1]? = some (.cells c2 t2 (0,0))
 below:Below w.heap.size w wr
theorem B3.start (w:World) (c0 c1 c2:Array Value) (t0 t1 t2:TypeId):B3 w (((w.alloc (.cells c0 t0)).alloc (.cells c1 t1)).alloc (.cells c2 t2)) c0 c1 c2 t0 t1 t2:=by
 have e1:∀ o0:Obj,(w.alloc o0).heap.size=w.heap.size+1:=by simp
 have e2:∀ o0 o1:Obj,((w.alloc o0).alloc o1).heap.size=w.heap.size+1+1:=by simp
 refine ⟨?_,?_,?_,((((Below.refl _ w).alloc (by exact Nat.le_refl _) _).alloc (by rw [e1];omega) _).alloc (by rw [e2];omega) _)⟩
 ·exact blk_alloc (blk_alloc (blk_new _ _) _) _
 ·rw [← e1 (.cells c0 t0)]
  exact blk_alloc (blk_new _ _) _
 ·rw [← e2 (.cells c0 t0) (.cells c1 t1)]
  exact blk_new _ _
theorem B3.drewN {w wr:World} {c0 c1 c2:Array Value} {t0 t1 t2:TypeId} (h:B3 w wr c0 c1 c2 t0 t1 t2) (k:Nat):B3 w (wr.drewN k) c0 c1 c2 t0 t1 t2:=⟨h.b0,h.b1,h.b2,Go.Proofs.YtodnkallpfkdiaaDoor.Below.drewN h.below k⟩
theorem B3.drew {w wr:World} {c0 c1 c2:Array Value} {t0 t1 t2:TypeId} (h:B3 w wr c0 c1 c2 t0 t1 t2):B3 w wr.drew c0 c1 c2 t0 t1 t2:=⟨h.b0,h.b1,h.b2,⟨h.below.os,h.below.tape,h.below.output,h.below.size,h.below.block⟩⟩
theorem B3.after {w wr w':World} {c0 c1 c2:Array Value} {t0 t1 t2:TypeId} (h:B3 w wr c0 c1 c2 t0 t1 t2) (b:Below wr.heap.size wr w'):B3 w w' c0 c1 c2 t0 t1 t2:=⟨Below.blk b h.b0 (blk_lt h.b0),Below.blk b h.b1 (blk_lt h.b1),Below.blk b h.b2 (blk_lt h.b2),h.below.trans (b.mono h.below.size)⟩
theorem B3.alloc {w wr:World} {c0 c1 c2:Array Value} {t0 t1 t2:TypeId} (h:B3 w wr c0 c1 c2 t0 t1 t2) (o:Obj):B3 w (wr.alloc o) c0 c1 c2 t0 t1 t2:=h.after ((Below.refl _ wr).alloc (Nat.le_refl _) o)
theorem B3.set0 {w wr:World} {c0 c1 c2:Array Value} {t0 t1 t2:TypeId} (h:B3 w wr c0 c1 c2 t0 t1 t2) (i:Nat) (v:Value):B3 w (wr.setCell ⟨w.heap.size,i,none⟩ v) (c0.setIfInBounds i v) c1 c2 t0 t1 t2:=⟨blk_setCell h.b0 v,blk_setCell_ne h.b1 _ (by omega),blk_setCell_ne h.b2 _ (by omega),h.below.setCell (p:=⟨w.heap.size,i,none⟩) (by simp) _⟩
theorem B3.put0 {w wr w':World} {c0 c1 c2 d:Array Value} {t0 t1 t2:TypeId} (h:B3 w wr c0 c1 c2 t0 t1 t2) (k:Kept (fun x=>x=w.heap.size) wr w') (hd:w'.heap[w.heap.size]? = some (.cells d t0 (0,0))):B3 w w' d c1 c2 t0 t1 t2:=⟨hd,k.blk h.b1 (by omega),k.blk h.b2 (by omega),h.below.trans (k.toBelow h.below.size (by rintro i rfl;omega))⟩
theorem B3.set1 {w wr:World} {c0 c1 c2:Array Value} {t0 t1 t2:TypeId} (h:B3 w wr c0 c1 c2 t0 t1 t2) (i:Nat) (v:Value):B3 w (wr.setCell ⟨w.heap.size+1,i,none⟩ v) c0 (c1.setIfInBounds i v) c2 t0 t1 t2:=⟨blk_setCell_ne h.b0 _ (by omega),blk_setCell h.b1 v,blk_setCell_ne h.b2 _ (by omega),h.below.setCell (p:=⟨w.heap.size+1,i,none⟩) (by simp) _⟩
theorem B3.put1 {w wr w':World} {c0 c1 c2 d:Array Value} {t0 t1 t2:TypeId} (h:B3 w wr c0 c1 c2 t0 t1 t2) (k:Kept (fun x=>x=w.heap.size+1) wr w') (hd:w'.heap[w.heap.size+1]? = some (.cells d t1 (0,0))):B3 w w' c0 d c2 t0 t1 t2:=⟨k.blk h.b0 (by omega),hd,k.blk h.b2 (by omega),h.below.trans (k.toBelow h.below.size (by rintro i rfl;omega))⟩
theorem B3.set2 {w wr:World} {c0 c1 c2:Array Value} {t0 t1 t2:TypeId} (h:B3 w wr c0 c1 c2 t0 t1 t2) (i:Nat) (v:Value):B3 w (wr.setCell ⟨w.heap.size+1+1,i,none⟩ v) c0 c1 (c2.setIfInBounds i v) t0 t1 t2:=⟨blk_setCell_ne h.b0 _ (by omega),blk_setCell_ne h.b1 _ (by omega),blk_setCell h.b2 v,h.below.setCell (p:=⟨w.heap.size+1+1,i,none⟩) (by simp;omega) _⟩
theorem B3.put2 {w wr w':World} {c0 c1 c2 d:Array Value} {t0 t1 t2:TypeId} (h:B3 w wr c0 c1 c2 t0 t1 t2) (k:Kept (fun x=>x=w.heap.size+1+1) wr w') (hd:w'.heap[w.heap.size+1+1]? = some (.cells d t2 (0,0))):B3 w w' c0 c1 d t0 t1 t2:=⟨k.blk h.b0 (by omega),k.blk h.b1 (by omega),hd,h.below.trans (k.toBelow h.below.size (by rintro i rfl;omega))⟩
theorem B3.far {w wr:World} {c0 c1 c2:Array Value} {t0 t1 t2:TypeId} (h:B3 w wr c0 c1 c2 t0 t1 t2) (g i:Nat) (v:Value) (hg:w.heap.size+1+1 < g):B3 w (wr.setCell ⟨g,i,none⟩ v) c0 c1 c2 t0 t1 t2:=⟨blk_setCell_ne h.b0 _ (by omega),blk_setCell_ne h.b1 _ (by omega),blk_setCell_ne h.b2 _ (by omega),h.below.setCell (p:=⟨g,i,none⟩) (by simp;omega) _⟩
theorem B3.farK {w wr w':World} {c0 c1 c2:Array Value} {t0 t1 t2:TypeId} {T:Nat→Prop} (h:B3 w wr c0 c1 c2 t0 t1 t2) (k:Kept T wr w') (hT:∀ i,T i→w.heap.size+1+1 < i):B3 w w' c0 c1 c2 t0 t1 t2:=⟨k.blk h.b0 (fun e=>by have:=hT _ e;omega),k.blk h.b1 (fun e=>by have:=hT _ e;omega),k.blk h.b2 (fun e=>by have:=hT _ e;omega),h.below.trans (k.toBelow h.below.size (fun i hi=>by have:=hT i hi;omega))⟩
/-- 4 blocks of the call's own. -/
structure B4 (w wr:World) (c0 c1 c2 c3:Array Value) (t0 t1 t2 t3:TypeId):Prop where
 b0:wr.heap[w.heap.size]? = some (.cells c0 t0 (0,0))
 b1:wr.heap[w.heap.size+1]? = some (.cells c1 t1 (0,0))
 b2:wr.heap[w.heap.size+1+1]? = some (.cells c2 t2 (0,0))
 b3:wr.heap[w.heap.size+1+1+1]? = some (.cells c3 t3 (0,0))
 below:Below w.heap.size w wr
theorem B4.start (w:World) (c0 c1 c2 c3:Array Value) (t0 t1 t2 t3:TypeId):B4 w ((((w.alloc (.cells c0 t0)).alloc (.cells c1 t1)).alloc (.cells c2 t2)).alloc (.cells c3 t3)) c0 c1 c2 c3 t0 t1 t2 t3:=by
 have e1:∀ o0:Obj,(w.alloc o0).heap.size=w.heap.size+1:=by simp
 have e2:∀ o0 o1:Obj,((w.alloc o0).alloc o1).heap.size=w.heap.size+1+1:=by simp
 have e3:∀ o0 o1 o2:Obj,(((w.alloc o0).alloc o1).alloc o2).heap.size=w.heap.size+1+1+1:=by simp
 refine ⟨?_,?_,?_,?_,(((((Below.refl _ w).alloc (by exact Nat.le_refl _) _).alloc (by rw [e1];omega) _).alloc (by rw [e2];omega) _).alloc (by rw [e3];omega) _)⟩
 ·exact blk_alloc (blk_alloc (blk_alloc (blk_new _ _) _) _) _
 ·rw [← e1 (.cells c0 t0)]
  exact blk_alloc (blk_alloc (blk_new _ _) _) _
 ·rw [← e2 (.cells c0 t0) (.cells c1 t1)]
  exact blk_alloc (blk_new _ _) _
 ·rw [← e3 (.cells c0 t0) (.cells c1 t1) (.cells c2 t2)]
  exact blk_new _ _
theorem B4.drewN {w wr:World} {c0 c1 c2 c3:Array Value} {t0 t1 t2 t3:TypeId} (h:B4 w wr c0 c1 c2 c3 t0 t1 t2 t3) (k:Nat):B4 w (wr.drewN k) c0 c1 c2 c3 t0 t1 t2 t3:=⟨h.b0,h.b1,h.b2,h.b3,Go.Proofs.YtodnkallpfkdiaaDoor.Below.drewN h.below k⟩
theorem B4.drew {w wr:World} {c0 c1 c2 c3:Array Value} {t0 t1 t2 t3:TypeId} (h:B4 w wr c0 c1 c2 c3 t0 t1 t2 t3):B4 w wr.drew c0 c1 c2 c3 t0 t1 t2 t3:=⟨h.b0,h.b1,h.b2,h.b3,⟨h.below.os,h.below.tape,h.below.output,h.below.size,h.below.block⟩⟩
theorem B4.after {w wr w':World} {c0 c1 c2 c3:Array Value} {t0 t1 t2 t3:TypeId} (h:B4 w wr c0 c1 c2 c3 t0 t1 t2 t3) (b:Below wr.heap.size wr w'):B4 w w' c0 c1 c2 c3 t0 t1 t2 t3:=⟨Below.blk b h.b0 (blk_lt h.b0),Below.blk b h.b1 (blk_lt h.b1),Below.blk b h.b2 (blk_lt h.b2),Below.blk b h.b3 (blk_lt h.b3),h.below.trans (b.mono h.below.size)⟩
theorem B4.alloc {w wr:World} {c0 c1 c2 c3:Array Value} {t0 t1 t2 t3:TypeId} (h:B4 w wr c0 c1 c2 c3 t0 t1 t2 t3) (o:Obj):B4 w (wr.alloc o) c0 c1 c2 c3 t0 t1 t2 t3:=h.after ((Below.refl _ wr).alloc (Nat.le_refl _) o)
theorem B4.set0 {w wr:World} {c0 c1 c2 c3:Array Value} {t0 t1 t2 t3:TypeId} (h:B4 w wr c0 c1 c2 c3 t0 t1 t2 t3) (i:Nat) (v:Value):B4 w (wr.setCell ⟨w.heap.size,i,none⟩ v) (c0.setIfInBounds i v) c1 c2 c3 t0 t1 t2 t3:=⟨blk_setCell h.b0 v,blk_setCell_ne h.b1 _ (by omega),blk_setCell_ne h.b2 _ (by omega),blk_setCell_ne h.b3 _ (by omega),h.below.setCell (p:=⟨w.heap.size,i,none⟩) (by simp) _⟩
theorem B4.put0 {w wr w':World} {c0 c1 c2 c3 d:Array Value} {t0 t1 t2 t3:TypeId} (h:B4 w wr c0 c1 c2 c3 t0 t1 t2 t3) (k:Kept (fun x=>x=w.heap.size) wr w') (hd:w'.heap[w.heap.size]? = some (.cells d t0 (0,0))):B4 w w' d c1 c2 c3 t0 t1 t2 t3:=⟨hd,k.blk h.b1 (by omega),k.blk h.b2 (by omega),k.blk h.b3 (by omega),h.below.trans (k.toBelow h.below.size (by rintro i rfl;omega))⟩
theorem B4.set1 {w wr:World} {c0 c1 c2 c3:Array Value} {t0 t1 t2 t3:TypeId} (h:B4 w wr c0 c1 c2 c3 t0 t1 t2 t3) (i:Nat) (v:Value):B4 w (wr.setCell ⟨w.heap.size+1,i,none⟩ v) c0 (c1.setIfInBounds i v) c2 c3 t0 t1 t2 t3:=⟨blk_setCell_ne h.b0 _ (by omega),blk_setCell h.b1 v,blk_setCell_ne h.b2 _ (by omega),blk_setCell_ne h.b3 _ (by omega),h.below.setCell (p:=⟨w.heap.size+1,i,none⟩) (by simp) _⟩
theorem B4.put1 {w wr w':World} {c0 c1 c2 c3 d:Array Value} {t0 t1 t2 t3:TypeId} (h:B4 w wr c0 c1 c2 c3 t0 t1 t2 t3) (k:Kept (fun x=>x=w.heap.size+1) wr w') (hd:w'.heap[w.heap.size+1]? = some (.cells d t1 (0,0))):B4 w w' c0 d c2 c3 t0 t1 t2 t3:=⟨k.blk h.b0 (by omega),hd,k.blk h.b2 (by omega),k.blk h.b3 (by omega),h.below.trans (k.toBelow h.below.size (by rintro i rfl;omega))⟩
theorem B4.set2 {w wr:World} {c0 c1 c2 c3:Array Value} {t0 t1 t2 t3:TypeId} (h:B4 w wr c0 c1 c2 c3 t0 t1 t2 t3) (i:Nat) (v:Value):B4 w (wr.setCell ⟨w.heap.size+1+1,i,none⟩ v) c0 c1 (c2.setIfInBounds i v) c3 t0 t1 t2 t3:=⟨blk_setCell_ne h.b0 _ (by omega),blk_setCell_ne h.b1 _ (by omega),blk_setCell h.b2 v,blk_setCell_ne h.b3 _ (by omega),h.below.setCell (p:=⟨w.heap.size+1+1,i,none⟩) (by simp;omega) _⟩
theorem B4.put2 {w wr w':World} {c0 c1 c2 c3 d:Array Value} {t0 t1 t2 t3:TypeId} (h:B4 w wr c0 c1 c2 c3 t0 t1 t2 t3) (k:Kept (fun x=>x=w.heap.size+1+1) wr w') (hd:w'.heap[w.heap.size+1+1]? = some (.cells d t2 (0,0))):B4 w w' c0 c1 d c3 t0 t1 t2 t3:=⟨k.blk h.b0 (by omega),k.blk h.b1 (by omega),hd,k.blk h.b3 (by omega),h.below.trans (k.toBelow h.below.size (by rintro i rfl;omega))⟩
theorem B4.set3 {w wr:World} {c0 c1 c2 c3:Array Value} {t0 t1 t2 t3:TypeId} (h:B4 w wr c0 c1 c2 c3 t0 t1 t2 t3) (i:Nat) (v:Value):B4 w (wr.setCell ⟨w.heap.size+1+1+1,i,none⟩ v) c0 c1 c2 (c3.setIfInBounds i v) t0 t1 t2 t3:=⟨blk_setCell_ne h.b0 _ (by omega),blk_setCell_ne h.b1 _ (by omega),blk_setCell_ne h.b2 _ (by omega),blk_setCell h.b3 v,h.below.setCell (p:=⟨w.heap.size+1+1+1,i,none⟩) (by simp;omega) _⟩
theorem B4.put3 {w wr w':World} {c0 c1 c2 c3 d:Array Value} {t0 t1 t2 t3:TypeId} (h:B4 w wr c0 c1 c2 c3 t0 t1 t2 t3) (k:Kept (fun x=>x=w.heap.size+1+1+1) wr w') (hd:w'.heap[w.heap.size+1+1+1]? = some (.cells d t3 (0,0))):B4 w w' c0 c1 c2 d t0 t1 t2 t3:=⟨k.blk h.b0 (by omega),k.blk h.b1 (by omega),k.blk h.b2 (by omega),hd,h.below.trans (k.toBelow h.below.size (by rintro i rfl;omega))⟩
theorem B4.far {w wr:World} {c0 c1 c2 c3:Array Value} {t0 t1 t2 t3:TypeId} (h:B4 w wr c0 c1 c2 c3 t0 t1 t2 t3) (g i:Nat) (v:Value) (hg:w.heap.size+1+1+1 < g):B4 w (wr.setCell ⟨g,i,none⟩ v) c0 c1 c2 c3 t0 t1 t2 t3:=⟨blk_setCell_ne h.b0 _ (by omega),blk_setCell_ne h.b1 _ (by omega),blk_setCell_ne h.b2 _ (by omega),blk_setCell_ne h.b3 _ (by omega),h.below.setCell (p:=⟨g,i,none⟩) (by simp;omega) _⟩
theorem B4.farK {w wr w':World} {c0 c1 c2 c3:Array Value} {t0 t1 t2 t3:TypeId} {T:Nat→Prop} (h:B4 w wr c0 c1 c2 c3 t0 t1 t2 t3) (k:Kept T wr w') (hT:∀ i,T i→w.heap.size+1+1+1 < i):B4 w w' c0 c1 c2 c3 t0 t1 t2 t3:=⟨k.blk h.b0 (fun e=>by have:=hT _ e;omega),k.blk h.b1 (fun e=>by have:=hT _ e;omega),k.blk h.b2 (fun e=>by have:=hT _ e;omega),k.blk h.b3 (fun e=>by have:=hT _ e;omega),h.below.trans (k.toBelow h.below.size (fun i hi=>by have:=hT i hi;omega))⟩
/-- 5 blocks of the call's own. -/
structure B5 (w wr:World) (c0 c1 c2 c3 c4:Array Value) (t0 t1 t2 t3 t4:TypeId):Prop where
 b0:wr.heap[w.heap.size]? = some (.cells c0 t0 (0,0))
 b1:wr.heap[w.heap.size+1]? = some (.cells c1 t1 (0,0))
 b2:wr.heap[w.heap.size+1+1]? = some (.cells c2 t2 (0,0))
 b3:wr.heap[w.heap.size+1+1+1]? = some (.cells c3 t3 (0,0))
 b4:wr.heap[w.heap.size+1+1+1+1]? = some (.cells c4 t4 (0,0))
 below:Below w.heap.size w wr
theorem B5.start (w:World) (c0 c1 c2 c3 c4:Array Value) (t0 t1 t2 t3 t4:TypeId):B5 w (((((w.alloc (.cells c0 t0)).alloc (.cells c1 t1)).alloc (.cells c2 t2)).alloc (.cells c3 t3)).alloc (.cells c4 t4)) c0 c1 c2 c3 c4 t0 t1 t2 t3 t4:=by
 have e1:∀ o0:Obj,(w.alloc o0).heap.size=w.heap.size+1:=by simp
 have e2:∀ o0 o1:Obj,((w.alloc o0).alloc o1).heap.size=w.heap.size+1+1:=by simp
 have e3:∀ o0 o1 o2:Obj,(((w.alloc o0).alloc o1).alloc o2).heap.size=w.heap.size+1+1+1:=by simp
 have e4:∀ o0 o1 o2 o3:Obj,((((w.alloc o0).alloc o1).alloc o2).alloc o3).heap.size=w.heap.size+1+1+1+1:=by simp
 refine ⟨?_,?_,?_,?_,?_,((((((Below.refl _ w).alloc (by exact Nat.le_refl _) _).alloc (by rw [e1];omega) _).alloc (by rw [e2];omega) _).alloc (by rw [e3];omega) _).alloc (by rw [e4];omega) _)⟩
 ·exact blk_alloc (blk_alloc (blk_alloc (blk_alloc (blk_new _ _) _) _) _) _
 ·rw [← e1 (.cells c0 t0)]
  exact blk_alloc (blk_alloc (blk_alloc (blk_new _ _) _) _) _
 ·rw [← e2 (.cells c0 t0) (.cells c1 t1)]
  exact blk_alloc (blk_alloc (blk_new _ _) _) _
 ·rw [← e3 (.cells c0 t0) (.cells c1 t1) (.cells c2 t2)]
  exact blk_alloc (blk_new _ _) _
 ·rw [← e4 (.cells c0 t0) (.cells c1 t1) (.cells c2 t2) (.cells c3 t3)]
  exact blk_new _ _
theorem B5.drewN {w wr:World} {c0 c1 c2 c3 c4:Array Value} {t0 t1 t2 t3 t4:TypeId} (h:B5 w wr c0 c1 c2 c3 c4 t0 t1 t2 t3 t4) (k:Nat):B5 w (wr.drewN k) c0 c1 c2 c3 c4 t0 t1 t2 t3 t4:=⟨h.b0,h.b1,h.b2,h.b3,h.b4,Go.Proofs.YtodnkallpfkdiaaDoor.Below.drewN h.below k⟩
theorem B5.drew {w wr:World} {c0 c1 c2 c3 c4:Array Value} {t0 t1 t2 t3 t4:TypeId} (h:B5 w wr c0 c1 c2 c3 c4 t0 t1 t2 t3 t4):B5 w wr.drew c0 c1 c2 c3 c4 t0 t1 t2 t3 t4:=⟨h.b0,h.b1,h.b2,h.b3,h.b4,⟨h.below.os,h.below.tape,h.below.output,h.below.size,h.below.block⟩⟩
theorem B5.after {w wr w':World} {c0 c1 c2 c3 c4:Array Value} {t0 t1 t2 t3 t4:TypeId} (h:B5 w wr c0 c1 c2 c3 c4 t0 t1 t2 t3 t4) (b:Below wr.heap.size wr w'):B5 w w' c0 c1 c2 c3 c4 t0 t1 t2 t3 t4:=⟨Below.blk b h.b0 (blk_lt h.b0),Below.blk b h.b1 (blk_lt h.b1),Below.blk b h.b2 (blk_lt h.b2),Below.blk b h.b3 (blk_lt h.b3),Below.blk b h.b4 (blk_lt h.b4),h.below.trans (b.mono h.below.size)⟩
theorem B5.alloc {w wr:World} {c0 c1 c2 c3 c4:Array Value} {t0 t1 t2 t3 t4:TypeId} (h:B5 w wr c0 c1 c2 c3 c4 t0 t1 t2 t3 t4) (o:Obj):B5 w (wr.alloc o) c0 c1 c2 c3 c4 t0 t1 t2 t3 t4:=h.after ((Below.refl _ wr).alloc (Nat.le_refl _) o)
theorem B5.set0 {w wr:World} {c0 c1 c2 c3 c4:Array Value} {t0 t1 t2 t3 t4:TypeId} (h:B5 w wr c0 c1 c2 c3 c4 t0 t1 t2 t3 t4) (i:Nat) (v:Value):B5 w (wr.setCell ⟨w.heap.size,i,none⟩ v) (c0.setIfInBounds i v) c1 c2 c3 c4 t0 t1 t2 t3 t4:=⟨blk_setCell h.b0 v,blk_setCell_ne h.b1 _ (by omega),blk_setCell_ne h.b2 _ (by omega),blk_setCell_ne h.b3 _ (by omega),blk_setCell_ne h.b4 _ (by omega),h.below.setCell (p:=⟨w.heap.size,i,none⟩) (by simp) _⟩
theorem B5.put0 {w wr w':World} {c0 c1 c2 c3 c4 d:Array Value} {t0 t1 t2 t3 t4:TypeId} (h:B5 w wr c0 c1 c2 c3 c4 t0 t1 t2 t3 t4) (k:Kept (fun x=>x=w.heap.size) wr w') (hd:w'.heap[w.heap.size]? = some (.cells d t0 (0,0))):B5 w w' d c1 c2 c3 c4 t0 t1 t2 t3 t4:=⟨hd,k.blk h.b1 (by omega),k.blk h.b2 (by omega),k.blk h.b3 (by omega),k.blk h.b4 (by omega),h.below.trans (k.toBelow h.below.size (by rintro i rfl;omega))⟩
theorem B5.set1 {w wr:World} {c0 c1 c2 c3 c4:Array Value} {t0 t1 t2 t3 t4:TypeId} (h:B5 w wr c0 c1 c2 c3 c4 t0 t1 t2 t3 t4) (i:Nat) (v:Value):B5 w (wr.setCell ⟨w.heap.size+1,i,none⟩ v) c0 (c1.setIfInBounds i v) c2 c3 c4 t0 t1 t2 t3 t4:=⟨blk_setCell_ne h.b0 _ (by omega),blk_setCell h.b1 v,blk_setCell_ne h.b2 _ (by omega),blk_setCell_ne h.b3 _ (by omega),blk_setCell_ne h.b4 _ (by omega),h.below.setCell (p:=⟨w.heap.size+1,i,none⟩) (by simp) _⟩
theorem B5.put1 {w wr w':World} {c0 c1 c2 c3 c4 d:Array Value} {t0 t1 t2 t3 t4:TypeId} (h:B5 w wr c0 c1 c2 c3 c4 t0 t1 t2 t3 t4) (k:Kept (fun x=>x=w.heap.size+1) wr w') (hd:w'.heap[w.heap.size+1]? = some (.cells d t1 (0,0))):B5 w w' c0 d c2 c3 c4 t0 t1 t2 t3 t4:=⟨k.blk h.b0 (by omega),hd,k.blk h.b2 (by omega),k.blk h.b3 (by omega),k.blk h.b4 (by omega),h.below.trans (k.toBelow h.below.size (by rintro i rfl;omega))⟩
theorem B5.set2 {w wr:World} {c0 c1 c2 c3 c4:Array Value} {t0 t1 t2 t3 t4:TypeId} (h:B5 w wr c0 c1 c2 c3 c4 t0 t1 t2 t3 t4) (i:Nat) (v:Value):B5 w (wr.setCell ⟨w.heap.size+1+1,i,none⟩ v) c0 c1 (c2.setIfInBounds i v) c3 c4 t0 t1 t2 t3 t4:=⟨blk_setCell_ne h.b0 _ (by omega),blk_setCell_ne h.b1 _ (by omega),blk_setCell h.b2 v,blk_setCell_ne h.b3 _ (by omega),blk_setCell_ne h.b4 _ (by omega),h.below.setCell (p:=⟨w.heap.size+1+1,i,none⟩) (by simp;omega) _⟩
theorem B5.put2 {w wr w':World} {c0 c1 c2 c3 c4 d:Array Value} {t0 t1 t2 t3 t4:TypeId} (h:B5 w wr c0 c1 c2 c3 c4 t0 t1 t2 t3 t4) (k:Kept (fun x=>x=w.heap.size+1+1) wr w') (hd:w'.heap[w.heap.size+1+1]? = some (.cells d t2 (0,0))):B5 w w' c0 c1 d c3 c4 t0 t1 t2 t3 t4:=⟨k.blk h.b0 (by omega),k.blk h.b1 (by omega),hd,k.blk h.b3 (by omega),k.blk h.b4 (by omega),h.below.trans (k.toBelow h.below.size (by rintro i rfl;omega))⟩
theorem B5.set3 {w wr:World} {c0 c1 c2 c3 c4:Array Value} {t0 t1 t2 t3 t4:TypeId} (h:B5 w wr c0 c1 c2 c3 c4 t0 t1 t2 t3 t4) (i:Nat) (v:Value):B5 w (wr.setCell ⟨w.heap.size+1+1+1,i,none⟩ v) c0 c1 c2 (c3.setIfInBounds i v) c4 t0 t1 t2 t3 t4:=⟨blk_setCell_ne h.b0 _ (by omega),blk_setCell_ne h.b1 _ (by omega),blk_setCell_ne h.b2 _ (by omega),blk_setCell h.b3 v,blk_setCell_ne h.b4 _ (by omega),h.below.setCell (p:=⟨w.heap.size+1+1+1,i,none⟩) (by simp;omega) _⟩
theorem B5.put3 {w wr w':World} {c0 c1 c2 c3 c4 d:Array Value} {t0 t1 t2 t3 t4:TypeId} (h:B5 w wr c0 c1 c2 c3 c4 t0 t1 t2 t3 t4) (k:Kept (fun x=>x=w.heap.size+1+1+1) wr w') (hd:w'.heap[w.heap.size+1+1+1]? = some (.cells d t3 (0,0))):B5 w w' c0 c1 c2 d c4 t0 t1 t2 t3 t4:=⟨k.blk h.b0 (by omega),k.blk h.b1 (by omega),k.blk h.b2 (by omega),hd,k.blk h.b4 (by omega),h.below.trans (k.toBelow h.below.size (by rintro i rfl;omega))⟩
theorem B5.set4 {w wr:World} {c0 c1 c2 c3 c4:Array Value} {t0 t1 t2 t3 t4:TypeId} (h:B5 w wr c0 c1 c2 c3 c4 t0 t1 t2 t3 t4) (i:Nat) (v:Value):B5 w (wr.setCell ⟨w.heap.size+1+1+1+1,i,none⟩ v) c0 c1 c2 c3 (c4.setIfInBounds i v) t0 t1 t2 t3 t4:=⟨blk_setCell_ne h.b0 _ (by omega),blk_setCell_ne h.b1 _ (by omega),blk_setCell_ne h.b2 _ (by omega),blk_setCell_ne h.b3 _ (by omega),blk_setCell h.b4 v,h.below.setCell (p:=⟨w.heap.size+1+1+1+1,i,none⟩) (by simp;omega) _⟩
theorem B5.put4 {w wr w':World} {c0 c1 c2 c3 c4 d:Array Value} {t0 t1 t2 t3 t4:TypeId} (h:B5 w wr c0 c1 c2 c3 c4 t0 t1 t2 t3 t4) (k:Kept (fun x=>x=w.heap.size+1+1+1+1) wr w') (hd:w'.heap[w.heap.size+1+1+1+1]? = some (.cells d t4 (0,0))):B5 w w' c0 c1 c2 c3 d t0 t1 t2 t3 t4:=⟨k.blk h.b0 (by omega),k.blk h.b1 (by omega),k.blk h.b2 (by omega),k.blk h.b3 (by omega),hd,h.below.trans (k.toBelow h.below.size (by rintro i rfl;omega))⟩
theorem B5.far {w wr:World} {c0 c1 c2 c3 c4:Array Value} {t0 t1 t2 t3 t4:TypeId} (h:B5 w wr c0 c1 c2 c3 c4 t0 t1 t2 t3 t4) (g i:Nat) (v:Value) (hg:w.heap.size+1+1+1+1 < g):B5 w (wr.setCell ⟨g,i,none⟩ v) c0 c1 c2 c3 c4 t0 t1 t2 t3 t4:=⟨blk_setCell_ne h.b0 _ (by omega),blk_setCell_ne h.b1 _ (by omega),blk_setCell_ne h.b2 _ (by omega),blk_setCell_ne h.b3 _ (by omega),blk_setCell_ne h.b4 _ (by omega),h.below.setCell (p:=⟨g,i,none⟩) (by simp;omega) _⟩
theorem B5.farK {w wr w':World} {c0 c1 c2 c3 c4:Array Value} {t0 t1 t2 t3 t4:TypeId} {T:Nat→Prop} (h:B5 w wr c0 c1 c2 c3 c4 t0 t1 t2 t3 t4) (k:Kept T wr w') (hT:∀ i,T i→w.heap.size+1+1+1+1 < i):B5 w w' c0 c1 c2 c3 c4 t0 t1 t2 t3 t4:=⟨k.blk h.b0 (fun e=>by have:=hT _ e;omega),k.blk h.b1 (fun e=>by have:=hT _ e;omega),k.blk h.b2 (fun e=>by have:=hT _ e;omega),k.blk h.b3 (fun e=>by have:=hT _ e;omega),k.blk h.b4 (fun e=>by have:=hT _ e;omega),h.below.trans (k.toBelow h.below.size (fun i hi=>by have:=hT i hi;omega))⟩
end Go.Proofs.YtodnkallpfkdiaaDoor
namespace Go.Proofs.YtodnkallpfkdiaaDoor.Lm
open Go.RowKit
theorem zero4 (w:World):(zeroValue 131).run Tryd.prog w = .ok (.agg (arr .u64 (List.replicate 4 0))) w:=by kernel_rfl
theorem size4:(Tryd.prog.info? 131).map (·.size)=some 4:=by kernel_rfl
theorem sub_bits (x y b:Nat) (hx:x < 18446744073709551616) (hy:y < 18446744073709551616) (hb:b≤1):(x+18446744073709551616 - y - b) % 18446744073709551616+y+b=x+18446744073709551616 * (if x < y+b then 1 else 0):=by
 split <;> omega
theorem nar4 (xs:List Nat) (hl:xs.length=4):(arr .u64 (nar xs)).size=(arr .u64 (List.replicate 4 0)).size:=by rw [arr_size,arr_size,nar_len,hl,List.length_replicate]
theorem nar4s (xs:List Nat) (hl:xs.length=4):(Tryd.prog.info? 131).map (·.size)=some (arr .u64 (nar xs)).size:=by rw [arr_size,nar_len,hl];exact size4
theorem nar4i (xs:List Nat) (hl:xs.length=4):(Tryd.prog.info? 131).map (·.size)=some (nar xs).length:=by rw [nar_len,hl];exact size4
theorem take4 (xs:List Nat) (hl:xs.length=4):xs.take 4=xs:=List.take_of_length_le (by omega)
theorem add_fin (X Y S c:Nat) (h:S+18446744073709551616 ^ 4 * c=X+Y) (hS:S < 18446744073709551616 ^ 4):S=(X+Y) % 18446744073709551616 ^ 4∧c=(X+Y) / 18446744073709551616 ^ 4:=by
 rw [← h,Nat.add_mul_mod_self_left,Nat.mod_eq_of_lt hS,Nat.add_mul_div_left _ _ (by decide),Nat.div_eq_of_lt hS,Nat.zero_add]
 exact ⟨rfl,rfl⟩
theorem sub_fin (X Y S c:Nat) (h:S+Y=X+18446744073709551616 ^ 4 * c) (hS:S < 18446744073709551616 ^ 4) (hY:Y < 18446744073709551616 ^ 4) (hc:c≤1):S=(X+18446744073709551616 ^ 4 - Y) % 18446744073709551616 ^ 4∧c=(if X < Y then 1 else 0):=by
 have:c=0∨c=1:=by omega
 generalize 18446744073709551616 ^ 4=P at h hS hY ⊢
 rcases this with rfl|rfl
 ·rw [if_neg (by omega)]
  rw [show X+P - Y=S+P by omega,Nat.add_mod_right,Nat.mod_eq_of_lt hS]
  exact ⟨rfl,rfl⟩
 ·rw [if_pos (by omega),show X+P - Y=S by omega,Nat.mod_eq_of_lt hS]
  exact ⟨rfl,rfl⟩
theorem ladd_any (xs ys:List Nat) (w:World) (lx:xs.length=4) (ly:ys.length=4) (bx:∀ x∈xs,x < 18446744073709551616) (bby:∀ x∈ys,x < 18446744073709551616) :
  Calls Tryd.prog 131 #[.agg (arr .u64 (nar xs)), .agg (arr .u64 (nar ys))] w fun e w'=>e = .returned (.tuple #[.agg (arr .u64 (nar (dig 18446744073709551616 4 ((val 18446744073709551616 xs+val 18446744073709551616 ys) % 18446744073709551616 ^ 4)))), .int .u64 (((val 18446744073709551616 xs+val 18446744073709551616 ys) / 18446744073709551616 ^ 4:Nat):Int)])∧Below w.heap.size w w':=by
 have S0:=Lib.hid (B4.start w (arr .u64 (nar xs)) (arr .u64 (nar ys)) (arr .u64 (List.replicate 4 0)) (arr .u64 (List.replicate 4 0)) 131 131 131 131)
 obtain ⟨av,hav⟩:∃ av,av=(val 18446744073709551616 xs+val 18446744073709551616 ys) / 18446744073709551616 ^ 4:=⟨_,rfl⟩
 rw [← hav]
 have HAV:=Lib.hid hav
 have LX:=Lib.hid lx
 have LY:=Lib.hid ly
 have BX:=Lib.hid bx
 have BY:=Lib.hid bby
 clear lx ly bx bby hav
 go_enter Tryd.func131, Tryd.ntmps131
 go_wp2_with (first|((with_reducible refine aS 4 ?_);refine wpList_alloc_row rfl 131 rfl _ (zero4 _) ?_)|((with_reducible refine aS 6 ?_);refine wpList_alloc_row rfl 131 rfl _ (zero4 _) ?_))
 go_loopw [7,9] (fun c i wr=>∃ (j cc:Nat) (os:List Nat),j≤4∧i = .int .i64 j∧c = .int .u64 cc∧cc≤1∧os.length=4∧(∀ x∈os,x < 18446744073709551616)∧val 18446744073709551616 (os.take j)+18446744073709551616 ^ j * cc=val 18446744073709551616 (xs.take j)+val 18446744073709551616 (ys.take j)∧B4 w wr (arr .u64 (nar xs)) (arr .u64 (nar ys)) (arr .u64 (List.replicate 4 0)) (arr .u64 (nar os)) 131 131 131 131) (fun _ i _=>4 - (intOf i).toNat)
 case atStart=>exact ⟨0,0,List.replicate 4 0,Nat.zero_le _,rfl,rfl,by omega,by simp,by simp,by simp [val],by rw [nar_zeros];exact S0.out⟩
 clear S0
 case round =>
 obtain ⟨j,cc,os,hj,rfl,rfl,hcc,hol,hob,hv,hB⟩:=hrel
 by_cases hlt:j < 4
 ·have q0:=blk_arr' hB.b0 j (by rw [nar_len,LX.out];exact hlt)
  have q1:=blk_arr' hB.b1 j (by rw [nar_len,LY.out];exact hlt)
  have q2:=blk_arr' hB.b3 j (by rw [nar_len,hol];exact hlt)
  have q3:=free_blk hB.b3 j
  rw [nar_get] at q0 q1
  have x1:=lt_getD BX.out (by omega) j
  have y1:=lt_getD BY.out (by omega) j
  generalize hx:xs.getD j 0=x at q0 x1
  generalize hy:ys.getD j 0=y at q1 y1
  have hb1:=hB.set3 j (.int .u64 (((x+y+cc) % 18446744073709551616:Nat):Int))
  rw [arr_set,← nar_set] at hb1
  have HB1:=Lib.hid hb1
  have HREL:Hid (val 18446744073709551616 ((os.set j ((x+y+cc) % 18446744073709551616)).take (j+1))+18446744073709551616 ^ (j+1) * ((x+y+cc) / 18446744073709551616)=val 18446744073709551616 (xs.take (j+1))+val 18446744073709551616 (ys.take (j+1))):=Lib.hid (by
   rw [val_take_set _ _ _ _ (by omega),val_take_succ _ xs _ (by rw [LX.out];exact hlt),val_take_succ _ ys _ (by rw [LY.out];exact hlt),hx,hy]
   exact add_step 18446744073709551616 j _ _ _ x y cc _ _ hv (by omega))
  have HO1:Hid ((os.set j ((x+y+cc) % 18446744073709551616)).length=4):=Lib.hid (by simpa using hol)
  have HO2:Hid (∀ z∈os.set j ((x+y+cc) % 18446744073709551616),z < 18446744073709551616):=Lib.hid (by exact lt_set hob j _ (Nat.mod_lt _ (by omega)))
  have HC:Hid ((x+y+cc) / 18446744073709551616≤1):=Lib.hid (by omega)
  have hadd:=add64 x y cc hcc
  clear hb1 hB hol hob hv hx hy x1 y1 hcc
  go_wp2_with fail
  go_region
  clear hadd q0 q1 q2 q3
  go_wp2_with fail
  go_roundw
  case rel=>exact ⟨j+1,_,_,by omega,by go_num,rfl,HC.out,HO1.out,HO2.out,HREL.out,HB1.out.drew⟩
  case measure=>simp [intOf];omega
 ·have e4:j=4:=by omega
  rw [e4,take4 os hol,take4 xs LX.out,take4 ys LY.out] at hv
  obtain ⟨f1,f2⟩:=add_fin _ _ _ _ hv (by have:=val_lt 18446744073709551616 os hob;rwa [hol] at this)
  have HD:=Lib.hid ((dig_eq 18446744073709551616 (by omega) 4 _ os hol hob f1).symm)
  have HF2:=Lib.hid f2
  have HB:=Lib.hid hB
  have HOL:=Lib.hid hol
  clear hB hv hol hob f1 f2 e4 hcc
  go_wp2_with (first|((with_reducible refine aS 26 ?_);refine wpList_load_part rfl 131 _ rfl (w.heap.size+1+1+1) 0 _ 131 (0,0) _ HB.out.b3 rfl .u64 (nar os) (arr_part _ _) Tryd.underlying131 rfl (nar4i os HOL.out) ?_)|((with_reducible show wpList _ _ _ (Oper.mk none _ _ _ _ _ :: _) _ _);refine wpList_store_whole rfl 131 _ _ rfl (w.heap.size+1+1) _ _ 131 HB.out.b2 rfl rfl (nar4 os HOL.out) (nar4s os HOL.out) (all_arr _ _) ?_;intro w7 hb7 hk7 hz7;have HB7:=Lib.hid (HB.out.put2 hk7 hb7);clear hb7 hk7 hz7))
  (try simp only [Exit.inBlock,Exit.then])
  refine bodyPost_ret (results_cell_tmp_row rfl _ _ (w.heap.size+1+1) 131 _ (0,0) _ _ rfl HB7.out.b2 Tryd.underlying131 rfl (nar4s os HOL.out) rfl) rfl ?_
  rw [HD.out,HAV.out,← HF2.out]
  exact ⟨rfl,HB7.out.below⟩
theorem lsub_any (xs ys:List Nat) (w:World) (lx:xs.length=4) (ly:ys.length=4) (bx:∀ x∈xs,x < 18446744073709551616) (bby:∀ x∈ys,x < 18446744073709551616) :
  Calls Tryd.prog 151 #[.agg (arr .u64 (nar xs)), .agg (arr .u64 (nar ys))] w fun e w'=>e = .returned (.tuple #[.agg (arr .u64 (nar (dig 18446744073709551616 4 ((val 18446744073709551616 xs+18446744073709551616 ^ 4 - val 18446744073709551616 ys) % 18446744073709551616 ^ 4)))), .int .u64 (((if val 18446744073709551616 xs < val 18446744073709551616 ys then 1 else 0):Nat):Int)])∧Below w.heap.size w w':=by
 have S0:=Lib.hid (B4.start w (arr .u64 (nar xs)) (arr .u64 (nar ys)) (arr .u64 (List.replicate 4 0)) (arr .u64 (List.replicate 4 0)) 131 131 131 131)
 obtain ⟨av,hav⟩:∃ av,av=(if val 18446744073709551616 xs < val 18446744073709551616 ys then 1 else 0):=⟨_,rfl⟩
 rw [← hav]
 have HAV:=Lib.hid hav
 have LX:=Lib.hid lx
 have LY:=Lib.hid ly
 have BX:=Lib.hid bx
 have BY:=Lib.hid bby
 clear lx ly bx bby hav
 go_enter Tryd.func151, Tryd.ntmps151
 go_wp2_with (first|((with_reducible refine aS 4 ?_);refine wpList_alloc_row rfl 131 rfl _ (zero4 _) ?_)|((with_reducible refine aS 6 ?_);refine wpList_alloc_row rfl 131 rfl _ (zero4 _) ?_))
 go_loopw [7,9] (fun c i wr=>∃ (j cc:Nat) (os:List Nat),j≤4∧i = .int .i64 j∧c = .int .u64 cc∧cc≤1∧os.length=4∧(∀ x∈os,x < 18446744073709551616)∧val 18446744073709551616 (os.take j)+val 18446744073709551616 (ys.take j)=val 18446744073709551616 (xs.take j)+18446744073709551616 ^ j * cc∧B4 w wr (arr .u64 (nar xs)) (arr .u64 (nar ys)) (arr .u64 (List.replicate 4 0)) (arr .u64 (nar os)) 131 131 131 131) (fun _ i _=>4 - (intOf i).toNat)
 case atStart=>exact ⟨0,0,List.replicate 4 0,Nat.zero_le _,rfl,rfl,by omega,by simp,by simp,by simp [val],by rw [nar_zeros];exact S0.out⟩
 clear S0
 case round =>
 obtain ⟨j,cc,os,hj,rfl,rfl,hcc,hol,hob,hv,hB⟩:=hrel
 by_cases hlt:j < 4
 ·have q0:=blk_arr' hB.b0 j (by rw [nar_len,LX.out];exact hlt)
  have q1:=blk_arr' hB.b1 j (by rw [nar_len,LY.out];exact hlt)
  have q2:=blk_arr' hB.b3 j (by rw [nar_len,hol];exact hlt)
  have q3:=free_blk hB.b3 j
  rw [nar_get] at q0 q1
  have x1:=lt_getD BX.out (by omega) j
  have y1:=lt_getD BY.out (by omega) j
  generalize hx:xs.getD j 0=x at q0 x1
  generalize hy:ys.getD j 0=y at q1 y1
  have hb1:=hB.set3 j (.int .u64 (((x+18446744073709551616 - y - cc) % 18446744073709551616:Nat):Int))
  rw [arr_set,← nar_set] at hb1
  have HB1:=Lib.hid hb1
  have HREL:Hid (val 18446744073709551616 ((os.set j ((x+18446744073709551616 - y - cc) % 18446744073709551616)).take (j+1))+val 18446744073709551616 (ys.take (j+1))=val 18446744073709551616 (xs.take (j+1))+18446744073709551616 ^ (j+1) * ((if x < y+cc then 1 else 0))):=Lib.hid (by
   rw [val_take_set _ _ _ _ (by omega),val_take_succ _ xs _ (by rw [LX.out];exact hlt),val_take_succ _ ys _ (by rw [LY.out];exact hlt),hx,hy]
   exact sub_step 18446744073709551616 j _ _ _ x y cc _ _ hv (sub_bits x y cc x1 y1 hcc))
  have HO1:Hid ((os.set j ((x+18446744073709551616 - y - cc) % 18446744073709551616)).length=4):=Lib.hid (by simpa using hol)
  have HO2:Hid (∀ z∈os.set j ((x+18446744073709551616 - y - cc) % 18446744073709551616),z < 18446744073709551616):=Lib.hid (by exact lt_set hob j _ (Nat.mod_lt _ (by omega)))
  have HC:Hid ((if x < y+cc then 1 else 0)≤1):=Lib.hid (by split <;> omega)
  have hadd:=sub64 x y cc hcc
  clear hb1 hB hol hob hv hx hy x1 y1 hcc
  go_wp2_with fail
  go_region
  clear hadd q0 q1 q2 q3
  go_wp2_with fail
  go_roundw
  case rel=>exact ⟨j+1,_,_,by omega,by go_num,rfl,HC.out,HO1.out,HO2.out,HREL.out,HB1.out.drew⟩
  case measure=>simp [intOf];omega
 ·have e4:j=4:=by omega
  rw [e4,take4 os hol,take4 xs LX.out,take4 ys LY.out] at hv
  obtain ⟨f1,f2⟩:=sub_fin _ _ _ _ hv (by have:=val_lt 18446744073709551616 os hob;rwa [hol] at this) (by have:=val_lt 18446744073709551616 ys BY.out;rwa [LY.out] at this) hcc
  have HD:=Lib.hid ((dig_eq 18446744073709551616 (by omega) 4 _ os hol hob f1).symm)
  have HF2:=Lib.hid f2
  have HB:=Lib.hid hB
  have HOL:=Lib.hid hol
  clear hB hv hol hob f1 f2 e4 hcc
  go_wp2_with (first|((with_reducible refine aS 26 ?_);refine wpList_load_part rfl 131 _ rfl (w.heap.size+1+1+1) 0 _ 131 (0,0) _ HB.out.b3 rfl .u64 (nar os) (arr_part _ _) Tryd.underlying131 rfl (nar4i os HOL.out) ?_)|((with_reducible show wpList _ _ _ (Oper.mk none _ _ _ _ _ :: _) _ _);refine wpList_store_whole rfl 131 _ _ rfl (w.heap.size+1+1) _ _ 131 HB.out.b2 rfl rfl (nar4 os HOL.out) (nar4s os HOL.out) (all_arr _ _) ?_;intro w7 hb7 hk7 hz7;have HB7:=Lib.hid (HB.out.put2 hk7 hb7);clear hb7 hk7 hz7))
  (try simp only [Exit.inBlock,Exit.then])
  refine bodyPost_ret (results_cell_tmp_row rfl _ _ (w.heap.size+1+1) 131 _ (0,0) _ _ rfl HB7.out.b2 Tryd.underlying131 rfl (nar4s os HOL.out) rfl) rfl ?_
  rw [HD.out,HAV.out,← HF2.out]
  exact ⟨rfl,HB7.out.below⟩
end Go.Proofs.YtodnkallpfkdiaaDoor.Lm
namespace Go.Proofs.YtodnkallpfkdiaaDoor.Lm
open Go.RowKit
theorem nar32i (xs:List Nat) (hl:xs.length=32):(Tryd.prog.info? 23).map (·.size)=some (nar xs).length:=by rw [nar_len,hl];kernel_rfl
theorem or_shl (x y s:Nat) (hs:s≤56) (hx:x < 2 ^ s) (hy:y < 256):bits .or .u64 (x:Int) (IntKind.u64.wrap ((y:Int) * 2 ^ s))=((x+y * 2 ^ s:Nat):Int):=by
 have hp:2 ^ s≤2 ^ 56:=Nat.pow_le_pow_right (by omega) hs
 have h2:y * 2 ^ s≤255 * 2 ^ 56:=Nat.mul_le_mul (by omega) hp
 have e1:IntKind.u64.wrap ((y:Int) * 2 ^ s)=((y * 2 ^ s:Nat):Int):=by
  rw [show (y:Int) * 2 ^ s=((y * 2 ^ s:Nat):Int) by push_cast;rfl,IntKind.wrap_u64]
  omega
 rw [e1]
 have hx1:(BitVec.ofInt 64 (x:Int)).toNat=x:=by rw [BitVec.ofInt_natCast,BitVec.toNat_ofNat];exact Nat.mod_eq_of_lt (by omega)
 have hx2:(BitVec.ofInt 64 ((y * 2 ^ s:Nat):Int)).toNat=y * 2 ^ s:=by rw [BitVec.ofInt_natCast,BitVec.toNat_ofNat];exact Nat.mod_eq_of_lt (by omega)
 show IntKind.u64.wrap ((BitVec.ofInt 64 (x:Int) ||| BitVec.ofInt 64 ((y * 2 ^ s:Nat):Int)).toNat:Int)=_
 rw [BitVec.toNat_or,hx1,hx2,Nat.or_comm,Nat.mul_comm y,← Nat.two_pow_add_eq_or_of_lt hx,IntKind.wrap_u64,Nat.mul_comm _ y]
 omega
theorem pow_split (j:Nat):256 ^ j=18446744073709551616 ^ (j / 8) * 2 ^ (8 * (j % 8)):=by
 rw [show (256:Nat)=2 ^ 8 by rfl,show (18446744073709551616:Nat)=2 ^ 64 by rfl,← Nat.pow_mul,← Nat.pow_mul,← Nat.pow_add]
 congr 1
 omega
theorem of_step (v j x y:Nat) (os:List Nat) (hj:j < 32) (hos:os=dig 18446744073709551616 4 v) (hv:v < 256 ^ j) (hx:os.getD (j / 8) 0=x) (hy:y < 256) :
  x < 2 ^ (8 * (j % 8))∧os.set (j / 8) (x+y * 2 ^ (8 * (j % 8)))=dig 18446744073709551616 4 (v+256 ^ j * y):=by
 have e:=pow_split j
 have hs:8 * (j % 8)≤56:=by omega
 have hol:os.length=4:=by rw [hos,dig_len]
 have hx2:x < 2 ^ (8 * (j % 8)):=by
  rw [← hx,hos,dig_get _ _ _ _ (by omega)]
  refine Nat.lt_of_le_of_lt (Nat.mod_le _ _) (Nat.div_lt_of_lt_mul ?_)
  rw [← e];exact hv
 refine ⟨hx2,?_⟩
 have hp:2 ^ (8 * (j % 8))≤2 ^ 56:=Nat.pow_le_pow_right (by omega) hs
 have h2:y * 2 ^ (8 * (j % 8))≤255 * 2 ^ (8 * (j % 8)):=Nat.mul_le_mul (by omega) (Nat.le_refl _)
 refine dig_eq 18446744073709551616 (by decide) 4 _ _ (by simpa using hol) (lt_set (by rw [hos];exact dig_lt _ (by decide) _ _) _ _ (by omega)) ?_
 have h3:=val_set 18446744073709551616 os (j / 8) (x+y * 2 ^ (8 * (j % 8))) (by omega)
 have h4:val 18446744073709551616 os=v:=by
  rw [hos,val_dig]
  refine Nat.mod_eq_of_lt (Nat.lt_of_lt_of_le hv ?_)
  exact Nat.le_trans (Nat.pow_le_pow_right (by decide) (show j≤32 by omega)) (by decide)
 have h5:18446744073709551616 ^ (j / 8) * (y * 2 ^ (8 * (j % 8)))=256 ^ j * y:=by rw [e,Nat.mul_comm y,Nat.mul_assoc]
 rw [hx,h4,Nat.mul_add,h5] at h3
 omega
theorem of_any (ks:List Nat) (w:World) (lk:ks.length=32) (bk:∀ x∈ks,x < 256) :
  Calls Tryd.prog 117 #[.agg (arr .u8 (nar ks))] w fun e w'=>e = .returned (.agg (arr .u64 (nar (dig 18446744073709551616 4 (val 256 ks)))))∧Below w.heap.size w w':=by
 have S0:=Lib.hid (B3.start w (arr .u8 (nar ks)) (arr .u64 (List.replicate 4 0)) (arr .u64 (List.replicate 4 0)) 23 131 131)
 have LK:=Lib.hid lk
 have BK:=Lib.hid bk
 clear lk bk
 go_enter Tryd.func117, Tryd.ntmps117
 go_wp2_with (first|((with_reducible refine aS 2 ?_);refine wpList_alloc_row rfl 131 rfl _ (zero4 _) ?_)|((with_reducible refine aS 3 ?_);refine wpList_alloc_row rfl 131 rfl _ (zero4 _) ?_)|((with_reducible refine aS 6 ?_);refine wpList_load_part rfl 23 _ rfl (w.heap.size) 0 _ 23 (0,0) _ S0.out.b0 rfl .u8 (nar ks) (arr_part _ _) Tryd.underlying23 rfl (nar32i ks LK.out) ?_))
 go_loopw [7] (fun i wr=>∃ (j:Nat) (os:List Nat),j≤32∧i = .int .i64 j∧os=dig 18446744073709551616 4 (val 256 (ks.take j))∧B3 w wr (arr .u8 (nar ks)) (arr .u64 (List.replicate 4 0)) (arr .u64 (nar os)) 23 131 131) (fun i _=>32 - (intOf i).toNat)
 case atStart=>exact ⟨0,List.replicate 4 0,Nat.zero_le _,rfl,by rw [List.take_zero];decide,by rw [nar_zeros];exact S0.out⟩
 clear S0
 case round =>
 obtain ⟨j,os,hj,rfl,hos,hB⟩:=hrel
 have hol:os.length=4:=by rw [hos,dig_len]
 by_cases hlt:j < 32
 ·have q2:=blk_arr' hB.b2 (j / 8) (by rw [nar_len,hol];omega)
  have q3:=free_blk hB.b2 (j / 8)
  rw [nar_get] at q2
  have x0:=fun (w:World)=>run_index_arr (P := Tryd.prog) w 23 5 32 .u8 .u8 .i64 Tryd.underlying23 Tryd.underlying5 (fun w=>by kernel_rfl) (nar ks) (by rw [nar_len];exact LK.out) j hlt
  rw [nar_get] at x0
  have y1:=lt_getD BK.out (by omega) j
  generalize hy:ks.getD j 0=y at x0 y1
  have hv:val 256 (ks.take j) < 256 ^ j:=by
   have:=val_lt 256 (ks.take j) (fun x hx=>BK.out x (List.mem_of_mem_take hx))
   rwa [List.length_take,LK.out,Nat.min_eq_left hj] at this
  have x9:val 256 (ks.take (j+1))=val 256 (ks.take j)+256 ^ j * y:=by rw [← hy];exact val_take_succ 256 ks j (by rw [LK.out];exact hlt)
  generalize hx:os.getD (j / 8) 0=x at q2
  obtain ⟨hx1,hst⟩:=of_step _ j x y os hlt hos hv hx y1
  have hor:=or_shl x y (8 * (j % 8)) (by omega) hx1 y1
  have hb1:=hB.set2 (j / 8) (.int .u64 (bits .or .u64 (x:Int) (IntKind.u64.wrap ((y:Int) * 2 ^ (8 * (j % 8))))))
  rw [arr_set,hor,← nar_set,hst,← x9] at hb1
  rw [← hor] at hb1
  have HB1:=Lib.hid hb1
  clear hB hol hb1 hst hx1 hor hx hv x9 hos hy
  go_wp2_with fail
  go_region
  go_wp2_with fail
  go_roundw
  case rel=>exact ⟨j+1,_,by omega,by go_num,rfl,HB1.out.drew⟩
  case measure=>simp [intOf];omega
 ·have e4:j=32:=by omega
  rw [e4,List.take_of_length_le (by rw [LK.out];exact Nat.le_refl _)] at hos
  have HB:=Lib.hid hB
  have HOS:=Lib.hid hos
  have HOL:=Lib.hid hol
  clear hB hos hol e4
  go_wp2_with (first|((with_reducible refine aS 24 ?_);refine wpList_load_part rfl 131 _ rfl (w.heap.size+1+1) 0 _ 131 (0,0) _ HB.out.b2 rfl .u64 (nar os) (arr_part _ _) Tryd.underlying131 rfl (nar4i os HOL.out) ?_)|((with_reducible show wpList _ _ _ (Oper.mk none _ _ _ _ _ :: _) _ _);refine wpList_store_whole rfl 131 _ _ rfl (w.heap.size+1) _ _ 131 HB.out.b1 rfl rfl (nar4 os HOL.out) (nar4s os HOL.out) (all_arr _ _) ?_;intro w7 hb7 hk7 hz7;have HB7:=Lib.hid (HB.out.put1 hk7 hb7);clear hb7 hk7 hz7))
  (try simp only [Exit.inBlock,Exit.then])
  refine bodyPost_ret (results_cell_row rfl _ _ (w.heap.size+1) 131 _ (0,0) _ rfl HB7.out.b1 Tryd.underlying131 rfl (nar4s os HOL.out)) rfl ?_
  rw [HOS.out]
  exact ⟨rfl,HB7.out.below⟩
end Go.Proofs.YtodnkallpfkdiaaDoor.Lm
namespace Go.Proofs.YtodnkallpfkdiaaDoor.Lm
open Go.RowKit
/-- n places, of which the first j are made. -/
def upto (f:Nat→Nat) (n j:Nat):List Nat:=(List.range n).map fun i=>if i < j then f i else 0
theorem upto_len (f:Nat→Nat) (n j:Nat):(upto f n j).length=n:=by simp [upto]
theorem upto_zero (f:Nat→Nat) (n:Nat):upto f n 0=List.replicate n 0:=by
 apply List.ext_getElem <;> simp [upto]
theorem upto_set (f:Nat→Nat) (n j:Nat):(upto f n j).set j (f j)=upto f n (j+1):=by
 apply List.ext_getElem
 ·simp [upto]
 ·intro i h1 h2
  simp only [upto,List.getElem_set,List.getElem_map,List.getElem_range]
  by_cases e:j=i
  ·subst e;simp
  ·rw [if_neg e]
   by_cases h:i < j
   ·rw [if_pos h,if_pos (by omega)]
   ·rw [if_neg h,if_neg (by omega)]
theorem upto_all (f:Nat→Nat) (n:Nat):upto f n n=(List.range n).map f:=by
 apply List.ext_getElem
 ·simp [upto]
 ·intro i h1 h2
  simp only [upto,List.getElem_map,List.getElem_range]
  rw [if_pos (by simpa [upto] using h1)]
theorem dig_upto (b n v:Nat):dig b n v=upto (fun i=>v / b ^ i % b) n n:=by
 rw [upto_all]
 apply List.ext_getElem
 ·simp [dig_len]
 ·intro i h1 h2
  have hi:i < n:=by simpa using h2
  have:=dig_get b n v i hi
  rw [List.getD,List.getElem?_eq_getElem h1] at this
  simpa using this
theorem getD_zeros (n k:Nat):(List.replicate n 0).getD k 0=0:=by
 simp only [List.getD,List.getElem?_replicate]
 split <;> rfl
/-- A byte out of a limb. -/
theorem byte_limb (v j x:Nat) (hx:x=v / 18446744073709551616 ^ (j / 8) % 18446744073709551616) (e:256 ^ j=18446744073709551616 ^ (j / 8) * 2 ^ (8 * (j % 8))):x / 2 ^ (8 * (j % 8)) % 256=v / 256 ^ j % 256:=by
 rw [e,← Nat.div_div_eq_div_mul,hx]
 generalize v / 18446744073709551616 ^ (j / 8)=y
 have h8:j % 8 < 8:=Nat.mod_lt _ (by decide)
 generalize j % 8=s at h8 ⊢
 have hB:(18446744073709551616:Nat)=2 ^ (8 * s) * (256 * 2 ^ (56 - 8 * s)):=by
  rw [show (256:Nat)=2 ^ 8 by rfl,show (18446744073709551616:Nat)=2 ^ 64 by rfl,← Nat.pow_add,← Nat.pow_add]
  congr 1
  omega
 rw [hB,Nat.mod_mul_right_div_self,Nat.mod_mul_right_mod]
/-- One step of a product. -/
theorem mul_bits (P o c:Nat) (hP:P≤18446744073709551615 * 18446744073709551615) (ho:o < 18446744073709551616) (hc:c < 18446744073709551616) :
  ((P % 18446744073709551616+o) % 18446744073709551616+c) % 18446744073709551616+18446744073709551616 * (P / 18446744073709551616+(P % 18446744073709551616+o) / 18446744073709551616+((P % 18446744073709551616+o) % 18446744073709551616+c) / 18446744073709551616)=P+o+c ∧
  P / 18446744073709551616+(P % 18446744073709551616+o) / 18446744073709551616+((P % 18446744073709551616+o) % 18446744073709551616+c) / 18446744073709551616 < 18446744073709551616:=by omega
theorem mul_step (b i j x y o c lo hi V0 V V' Yj:Nat) (h:V+b ^ (i+j) * c=V0+b ^ i * x * Yj) (hs:V'+b ^ (i+j) * o=V+b ^ (i+j) * lo) (hl:lo+b * hi=x * y+o+c) :
  V'+b ^ (i+(j+1)) * hi=V0+b ^ i * x * (Yj+b ^ j * y):=by
 have e1:b ^ (i+(j+1))=b ^ (i+j) * b:=by rw [← Nat.add_assoc,Nat.pow_succ]
 have e2:b ^ i * x * (b ^ j * y)=b ^ (i+j) * (x * y):=by rw [Nat.pow_add];grind
 have e3:b ^ (i+j) * (lo+b * hi)=b ^ (i+j) * (x * y+o+c):=by rw [hl]
 rw [Nat.mul_add,e1,e2,Nat.mul_assoc]
 rw [Nat.mul_add,Nat.mul_add,Nat.mul_add] at e3
 omega
end Go.Proofs.YtodnkallpfkdiaaDoor.Lm
namespace Go.Proofs.YtodnkallpfkdiaaDoor.Lm
open Go.RowKit
theorem zero32 (w:World):(zeroValue 23).run Tryd.prog w = .ok (.agg (arr .u8 (List.replicate 32 0))) w:=by kernel_rfl
theorem nar32 (xs:List Nat) (hl:xs.length=32):(arr .u8 (nar xs)).size=(arr .u8 (List.replicate 32 0)).size:=by rw [arr_size,arr_size,nar_len,hl,List.length_replicate]
theorem nar32s (xs:List Nat) (hl:xs.length=32):(Tryd.prog.info? 23).map (·.size)=some (arr .u8 (nar xs)).size:=by rw [arr_size,nar_len,hl];kernel_rfl
theorem num_any (xs:List Nat) (w:World) (lx:xs.length=4) (bx:∀ x∈xs,x < 18446744073709551616) :
  Calls Tryd.prog 130 #[.agg (arr .u64 (nar xs))] w fun e w'=>e = .returned (.agg (arr .u8 (nar (dig 256 32 (val 18446744073709551616 xs)))))∧Below w.heap.size w w':=by
 have S0:=Lib.hid (B3.start w (arr .u64 (nar xs)) (arr .u8 (List.replicate 32 0)) (arr .u8 (List.replicate 32 0)) 131 23 23)
 have hxs:xs=dig 18446744073709551616 4 (val 18446744073709551616 xs):=dig_eq _ (by decide) 4 _ _ lx bx rfl
 obtain ⟨v,hv⟩:∃ v,v=val 18446744073709551616 xs:=⟨_,rfl⟩
 rw [← hv] at hxs ⊢
 rw [dig_upto 256]
 obtain ⟨F,hF⟩:∃ F:Nat→Nat,F=fun i=>v / 256 ^ i % 256:=⟨_,rfl⟩
 rw [← hF]
 have LX:=Lib.hid lx
 have HX:=Lib.hid hxs
 have HF:=Lib.hid hF
 clear lx bx hxs hv hF
 go_enter Tryd.func130, Tryd.ntmps130
 go_wp2_with (first|((with_reducible refine aS 2 ?_);refine wpList_alloc_row rfl 23 rfl _ (zero32 _) ?_)|((with_reducible refine aS 3 ?_);refine wpList_alloc_row rfl 23 rfl _ (zero32 _) ?_))
 go_loopw [5] (fun i wr=>∃ (j:Nat),j≤32∧i = .int .i64 j∧B3 w wr (arr .u64 (nar xs)) (arr .u8 (List.replicate 32 0)) (arr .u8 (nar (upto F 32 j))) 131 23 23) (fun i _=>32 - (intOf i).toNat)
 case atStart=>exact ⟨0,Nat.zero_le _,rfl,by rw [upto_zero,nar_zeros];exact S0.out⟩
 clear S0
 case round =>
 obtain ⟨j,hj,rfl,hB⟩:=hrel
 by_cases hlt:j < 32
 ·have q0:=blk_arr' hB.b0 (j / 8) (by rw [nar_len,LX.out];omega)
  have q2:=blk_arr' hB.b2 j (by rw [nar_len,upto_len];omega)
  have q3:=free_blk hB.b2 j
  rw [nar_get] at q0
  have hxj:xs.getD (j / 8) 0=v / 18446744073709551616 ^ (j / 8) % 18446744073709551616:=by
   rw [HX.out];exact dig_get _ _ _ _ (by omega)
  generalize xs.getD (j / 8) 0=x at q0 hxj
  have hby:=byte_limb v j x hxj (pow_split j)
  have hb1:=hB.set2 j (.int .u8 ((F j:Nat):Int))
  rw [arr_set,← nar_set,upto_set] at hb1
  have hFj:F j=x / 2 ^ (8 * (j % 8)) % 256:=by rw [HF.out,hby]
  rw [hFj] at hb1
  have HB:=Lib.hid hB
  have HB1:=Lib.hid hb1
  have HXJ:=Lib.hid hxj
  have HFJ:=Lib.hid hFj
  clear hB hb1 hxj hby hFj
  go_wp2_with fail
  go_roundw
  case rel=>exact ⟨j+1,by omega,by go_num,HB1.out⟩
  case measure=>simp [intOf];omega
 ·have e4:j=32:=by omega
  rw [e4] at hB
  have HB:=Lib.hid hB
  have HOL:Hid ((upto F 32 32).length=32):=Lib.hid (upto_len _ _ _)
  clear hB e4
  obtain ⟨os,hos⟩:∃ os,os=upto F 32 32:=⟨_,rfl⟩
  rw [← hos] at HB HOL
  have HOS:=Lib.hid hos
  clear hos
  go_wp2_with (first|((with_reducible refine aS 20 ?_);refine wpList_load_part rfl 23 _ rfl (w.heap.size+1+1) 0 _ 23 (0,0) _ HB.out.b2 rfl .u8 (nar os) (arr_part _ _) Tryd.underlying23 rfl (nar32i os HOL.out) ?_)|((with_reducible show wpList _ _ _ (Oper.mk none _ _ _ _ _ :: _) _ _);refine wpList_store_whole rfl 23 _ _ rfl (w.heap.size+1) _ _ 23 HB.out.b1 rfl rfl (nar32 os HOL.out) (nar32s os HOL.out) (all_arr _ _) ?_;intro w7 hb7 hk7 hz7;have HB7:=Lib.hid (HB.out.put1 hk7 hb7);clear hb7 hk7 hz7))
  (try simp only [Exit.inBlock,Exit.then])
  refine bodyPost_ret (results_cell_row rfl _ _ (w.heap.size+1) 23 _ (0,0) _ rfl HB7.out.b1 Tryd.underlying23 rfl (nar32s os HOL.out)) rfl ?_
  exact ⟨by rw [HOS.out],HB7.out.below⟩
end Go.Proofs.YtodnkallpfkdiaaDoor.Lm
namespace Go.Proofs.YtodnkallpfkdiaaDoor.Lm
open Go.RowKit
theorem zero8 (w:World):(zeroValue 172).run Tryd.prog w = .ok (.agg (arr .u64 (List.replicate 8 0))) w:=by kernel_rfl
theorem nar8 (xs:List Nat) (hl:xs.length=8):(arr .u64 (nar xs)).size=(arr .u64 (List.replicate 8 0)).size:=by rw [arr_size,arr_size,nar_len,hl,List.length_replicate]
theorem nar8s (xs:List Nat) (hl:xs.length=8):(Tryd.prog.info? 172).map (·.size)=some (arr .u64 (nar xs)).size:=by rw [arr_size,nar_len,hl];kernel_rfl
theorem nar8i (xs:List Nat) (hl:xs.length=8):(Tryd.prog.info? 172).map (·.size)=some (nar xs).length:=by rw [nar_len,hl];kernel_rfl
theorem prod_le (x y:Nat) (hx:x < 18446744073709551616) (hy:y < 18446744073709551616):x * y≤18446744073709551615 * 18446744073709551615:=Nat.mul_le_mul (by omega) (by omega)
theorem lmul_any (xs ys:List Nat) (w:World) (lx:xs.length=4) (ly:ys.length=4) (bx:∀ x∈xs,x < 18446744073709551616) (bby:∀ x∈ys,x < 18446744073709551616) :
  Calls Tryd.prog 133 #[.agg (arr .u64 (nar xs)), .agg (arr .u64 (nar ys))] w fun e w'=>e = .returned (.agg (arr .u64 (nar (dig 18446744073709551616 8 (val 18446744073709551616 xs * val 18446744073709551616 ys)))))∧Below w.heap.size w w':=by
 have S0:=Lib.hid (B4.start w (arr .u64 (nar xs)) (arr .u64 (nar ys)) (arr .u64 (List.replicate 8 0)) (arr .u64 (List.replicate 8 0)) 131 131 172 172)
 have LX:=Lib.hid lx
 have LY:=Lib.hid ly
 have BX:=Lib.hid bx
 have BY:=Lib.hid bby
 clear lx ly bx bby
 go_enter Tryd.func133, Tryd.ntmps133
 go_wp2_with (first|((with_reducible refine aS 4 ?_);refine wpList_alloc_row rfl 172 rfl _ (zero8 _) ?_)|((with_reducible refine aS 5 ?_);refine wpList_alloc_row rfl 172 rfl _ (zero8 _) ?_))
 go_loopw [12] (fun v wr=>∃ (i:Nat) (os:List Nat),i≤4∧v = .int .i64 i∧os.length=8∧(∀ x∈os,x < 18446744073709551616)∧(∀ k,i+4≤k→os.getD k 0=0)∧val 18446744073709551616 os=val 18446744073709551616 (xs.take i) * val 18446744073709551616 ys∧B4 w wr (arr .u64 (nar xs)) (arr .u64 (nar ys)) (arr .u64 (List.replicate 8 0)) (arr .u64 (nar os)) 131 131 172 172) (fun v _=>4 - (intOf v).toNat)
 case atStart=>exact ⟨0,List.replicate 8 0,Nat.zero_le _,rfl,by simp,by simp,fun k _=>getD_zeros 8 k,by rw [val_zeros,List.take_zero];simp [val],by rw [nar_zeros];exact S0.out⟩
 clear S0
 case round =>
 obtain ⟨i,os,hi,rfl,hol,hob,hoz,hv,hB⟩:=hrel
 by_cases hlt:i < 4
 ·have xi:=lt_getD BX.out (by omega) i
  generalize hx:xs.getD i 0=x at xi
  have HX:=Lib.hid hx
  have HB:=Lib.hid hB
  have HOL:=Lib.hid hol
  have HOB:=Lib.hid hob
  have HOZ:=Lib.hid hoz
  have HV:=Lib.hid hv
  clear hx hB hol hob hoz hv
  go_wp2_with fail
  generalize Value.bool (decide ((i:Int) < 4))=u13'
  go_loopw [7,15] (fun cv jv wr=>∃ (j c:Nat) (ps:List Nat),j≤4∧jv = .int .i64 j∧cv = .int .u64 c∧c < 18446744073709551616∧ps.length=8∧(∀ x∈ps,x < 18446744073709551616)∧(∀ k,i+4≤k→ps.getD k 0=0)∧val 18446744073709551616 ps+18446744073709551616 ^ (i+j) * c=val 18446744073709551616 os+18446744073709551616 ^ i * x * val 18446744073709551616 (ys.take j)∧B4 w wr (arr .u64 (nar xs)) (arr .u64 (nar ys)) (arr .u64 (List.replicate 8 0)) (arr .u64 (nar ps)) 131 131 172 172) (fun _ jv _=>4 - (intOf jv).toNat)
  case atStart=>exact ⟨0,0,os,Nat.zero_le _,rfl,rfl,by decide,HOL.out,HOB.out,HOZ.out,by rw [List.take_zero];simp [val],HB.out⟩
  case round =>
   obtain ⟨j,c,ps,hj,rfl,rfl,hc,hpl,hpb,hpz,hpv,hP⟩:=hrel
   by_cases hlj:j < 4
   ·have q0:=blk_arr' hP.b0 i (by rw [nar_len,LX.out];exact hlt)
    have q1:=blk_arr' hP.b1 j (by rw [nar_len,LY.out];exact hlj)
    have q2:=blk_arr' hP.b3 (i+j) (by rw [nar_len,hpl];omega)
    have q3:=free_blk hP.b3 (i+j)
    rw [nar_get] at q0 q1 q2
    rw [HX.out] at q0
    have yj:=lt_getD BY.out (by omega) j
    have oj:=lt_getD hpb (by omega) (i+j)
    generalize hy:ys.getD j 0=y at q1 yj
    generalize ho:ps.getD (i+j) 0=o at q2 oj
    obtain ⟨m1,m2⟩:=mul_bits (x * y) o c (prod_le x y xi yj) oj hc
    have M1:=fun w=>mul64 x y xi yj w
    have a1:=add64 (x * y % 18446744073709551616) o 0 (by omega)
    have a2:=add64 ((x * y % 18446744073709551616+o) % 18446744073709551616) c 0 (by omega)
    rw [Nat.add_zero] at a1 a2
    have e0:((0:Nat):Int)=0:=rfl
    rw [e0] at a1 a2
    have k0:x * y / 18446744073709551616≤18446744073709551616 - 2:=by have:=prod_le x y xi yj;omega
    have k1:(x * y % 18446744073709551616+o) / 18446744073709551616≤1:=by omega
    have k2:((x * y % 18446744073709551616+o) % 18446744073709551616+c) / 18446744073709551616≤1:=by omega
    have k3:((x * y % 18446744073709551616+o) % 18446744073709551616+c) % 18446744073709551616 < 18446744073709551616:=Nat.mod_lt _ (by decide)
    have k4:x * y % 18446744073709551616 < 18446744073709551616:=Nat.mod_lt _ (by decide)
    have k5:(x * y % 18446744073709551616+o) % 18446744073709551616 < 18446744073709551616:=Nat.mod_lt _ (by decide)
    generalize hP0:x * y=P0 at M1 a1 a2 k0 k1 k2 k3 k4 k5 m1 m2
    generalize P0 / 18446744073709551616=h0 at M1 a1 a2 k0 k1 k2 k3 k4 k5 m1 m2
    generalize P0 % 18446744073709551616=l0 at M1 a1 a2 k1 k2 k3 k4 k5 m1 m2
    generalize (l0+o) / 18446744073709551616=c1 at a1 k1 m1 m2
    generalize (l0+o) % 18446744073709551616=s1 at a1 a2 k2 k3 k5 m1 m2
    generalize (s1+c) / 18446744073709551616=c2 at a2 k2 m1 m2
    generalize (s1+c) % 18446744073709551616=lo at a2 k3 m1
    subst hP0
    have hb1:=hP.set3 (i+j) (.int .u64 ((lo:Nat):Int))
    rw [arr_set,← nar_set] at hb1
    have hs:=val_set 18446744073709551616 ps (i+j) lo (by omega)
    rw [ho] at hs
    have hst:=mul_step 18446744073709551616 i j x y o c lo (h0+c1+c2) _ _ _ _ hpv hs m1
    rw [← hy,← val_take_succ 18446744073709551616 ys j (by rw [LY.out];exact hlj)] at hst
    have HB1:=Lib.hid hb1
    have HST:=Lib.hid hst
    have HPL:Hid ((ps.set (i+j) lo).length=8):=Lib.hid (by simpa using hpl)
    have HPB:Hid (∀ z∈ps.set (i+j) lo,z < 18446744073709551616):=Lib.hid (lt_set hpb _ _ k3)
    have HPZ:Hid (∀ k,i+4≤k→(ps.set (i+j) lo).getD k 0=0):=Lib.hid (by intro k hk;have e:=hpz k hk;simp only [List.getD] at e ⊢; rw [List.getElem?_set_ne (by omega)];exact e)
    clear hP hb1 hs hst hpl hpb hpz hpv hy ho m1
    go_wp2_with fail
    refine wp_region_still_lit (by kernel_rfl) (by kernel_rfl) ?_
    repeat still_step
    (refine wpStill_step (fun K hK=>?_);go_simp;refine Exists.intro _ (And.intro (M1 _) ?_);refine hK _ ?_;clear hK K)
    repeat still_step
    refine wpStill_nil ?_
    go_wp2_with fail
    go_roundw
    case rel=>exact ⟨j+1,h0+c1+c2,_,by omega,by go_num,by go_num,m2,HPL.out,HPB.out,HPZ.out,HST.out,HB1.out.drew⟩
    case measure=>simp [intOf];omega
   ·have e4:j=4:=by omega
    have ty:ys.take 4=ys:=take4 ys LY.out
    rw [e4,ty] at hpv
    have hz4:=hpz (i+4) (Nat.le_refl _)
    have hs:=val_set 18446744073709551616 ps (i+4) c (by omega)
    rw [hz4,Nat.mul_zero,Nat.add_zero,hpv,HV.out,← HX.out,← Nat.add_mul,← val_take_succ 18446744073709551616 xs i (by rw [LX.out];exact hlt)] at hs
    have q2:=blk_arr' hP.b3 (i+4) (by rw [nar_len,hpl];omega)
    have q3:=free_blk hP.b3 (i+4)
    have hb1:=hP.set3 (i+4) (.int .u64 ((c:Nat):Int))
    rw [arr_set,← nar_set] at hb1
    have HB1:=Lib.hid hb1
    have HS:=Lib.hid hs
    have HPL:Hid ((ps.set (i+4) c).length=8):=Lib.hid (by simpa using hpl)
    have HPB:Hid (∀ z∈ps.set (i+4) c,z < 18446744073709551616):=Lib.hid (lt_set hpb _ _ hc)
    have HPZ:Hid (∀ k,i+1+4≤k→(ps.set (i+4) c).getD k 0=0):=Lib.hid (by intro k hk;have e:=hpz k (by omega);simp only [List.getD] at e ⊢; rw [List.getElem?_set_ne (by omega)];exact e)
    clear hP hb1 hs hpl hpb hpz hpv hz4 ty e4 HV HB HOL HOB HOZ
    go_wp2_with fail
    go_roundw
    case rel=>exact ⟨i+1,_,by omega,by go_num,HPL.out,HPB.out,HPZ.out,HS.out,HB1.out⟩
    case measure=>simp [intOf];omega
 ·have e4:i=4:=by omega
  rw [e4,take4 xs LX.out] at hv
  have HD:=Lib.hid (dig_eq 18446744073709551616 (by decide) 8 _ os hol hob hv)
  have HB:=Lib.hid hB
  have HOL:=Lib.hid hol
  clear hB hv hol hob hoz e4
  go_wp2_with (first|((with_reducible refine aS 61 ?_);refine wpList_load_part rfl 172 _ rfl (w.heap.size+1+1+1) 0 _ 172 (0,0) _ HB.out.b3 rfl .u64 (nar os) (arr_part _ _) Tryd.underlying172 rfl (nar8i os HOL.out) ?_)|((with_reducible show wpList _ _ _ (Oper.mk none _ _ _ _ _ :: _) _ _);refine wpList_store_whole rfl 172 _ _ rfl (w.heap.size+1+1) _ _ 172 HB.out.b2 rfl rfl (nar8 os HOL.out) (nar8s os HOL.out) (all_arr _ _) ?_;intro w7 hb7 hk7 hz7;have HB7:=Lib.hid (HB.out.put2 hk7 hb7);clear hb7 hk7 hz7))
  (try simp only [Exit.inBlock,Exit.then])
  refine bodyPost_ret (results_cell_row rfl _ _ (w.heap.size+1+1) 172 _ (0,0) _ rfl HB7.out.b2 Tryd.underlying172 rfl (nar8s os HOL.out)) rfl ?_
  exact ⟨by rw [← HD.out],HB7.out.below⟩
end Go.Proofs.YtodnkallpfkdiaaDoor.Lm
namespace Go.Proofs.YtodnkallpfkdiaaDoor
open Go.RowKit
/-- The blocks of l are the call's own (it began at w), none of them stands twice. -/
structure Blk (w wr:World) (l:List (Nat×Array Value×TypeId)):Prop where
 mem:∀ (i g:Nat) (c:Array Value) (t:TypeId),l[i]? = some (g,c,t)→wr.heap[g]? = some (.cells c t (0,0))∧w.heap.size≤g
 inj:∀ (i j:Nat) (g:Nat) (c:Array Value) (t:TypeId) (c':Array Value) (t':TypeId),l[i]? = some (g,c,t)→l[j]? = some (g,c',t')→i=j
 below:Below w.heap.size w wr
theorem Blk.nil (w:World):Blk w w []:=⟨fun _ _ _ _ h=>by simp at h,fun _ _ _ _ _ _ _ h=>by simp at h,Below.refl _ w⟩
theorem Blk.get {w wr:World} {l:List (Nat×Array Value×TypeId)} (h:Blk w wr l) (i:Nat) {g:Nat} {c:Array Value} {t:TypeId} (hi:l[i]? = some (g,c,t)):wr.heap[g]? = some (.cells c t (0,0)):=(h.mem i g c t hi).1
theorem Blk.low {w wr:World} {l:List (Nat×Array Value×TypeId)} (h:Blk w wr l) (i:Nat) {g:Nat} {c:Array Value} {t:TypeId} (hi:l[i]? = some (g,c,t)):w.heap.size≤g:=(h.mem i g c t hi).2
theorem Blk.lt {w wr:World} {l:List (Nat×Array Value×TypeId)} (h:Blk w wr l) (i:Nat) {g:Nat} {c:Array Value} {t:TypeId} (hi:l[i]? = some (g,c,t)):g < wr.heap.size:=blk_lt (h.get i hi)
theorem Blk.kept {w wr w':World} {l:List (Nat×Array Value×TypeId)} (h:Blk w wr l) (b:Below wr.heap.size wr w'):Blk w w' l :=
 ⟨fun i _ _ _ hi=>⟨Below.blk b (h.get i hi) (h.lt i hi),h.low i hi⟩,h.inj,h.below.trans (b.mono h.below.size)⟩
theorem Blk.drew {w wr:World} {l:List (Nat×Array Value×TypeId)} (h:Blk w wr l):Blk w wr.drew l:=⟨h.mem,h.inj,⟨h.below.os,h.below.tape,h.below.output,h.below.size,h.below.block⟩⟩
theorem Blk.drewN {w wr:World} {l:List (Nat×Array Value×TypeId)} (h:Blk w wr l) (k:Nat):Blk w (wr.drewN k) l:=⟨h.mem,h.inj,Go.Proofs.YtodnkallpfkdiaaDoor.Below.drewN h.below k⟩
theorem Blk.alloc {w wr:World} {l:List (Nat×Array Value×TypeId)} (h:Blk w wr l) (c:Array Value) (t:TypeId):Blk w (wr.alloc (.cells c t)) (l ++ [(wr.heap.size,c,t)]):=by
 have hb:Below wr.heap.size wr (wr.alloc (.cells c t)):=(Below.refl _ wr).alloc (Nat.le_refl _) _
 have h1:=h.kept hb
 refine ⟨fun i g c' t' hi=>?_,fun i j g c1 t1 c2 t2 hi hj=>?_,h1.below⟩
 ·rcases Nat.lt_or_ge i l.length with hl|hl
  ·rw [List.getElem?_append_left hl] at hi
   exact h1.mem i g c' t' hi
  ·rw [List.getElem?_append_right hl] at hi
   rcases Nat.eq_zero_or_pos (i - l.length) with h0|h0
   ·rw [h0] at hi
    simp only [List.getElem?_cons_zero,Option.some.injEq,Prod.mk.injEq] at hi
    obtain ⟨rfl,rfl,rfl⟩:=hi
    exact ⟨blk_new wr _,h.below.size⟩
   ·rw [List.getElem?_eq_none (by simp;omega)] at hi
    cases hi
 ·rcases Nat.lt_or_ge i l.length with hl|hl
  ·rw [List.getElem?_append_left hl] at hi
   rcases Nat.lt_or_ge j l.length with hm|hm
   ·rw [List.getElem?_append_left hm] at hj
    exact h.inj i j _ _ _ _ _ hi hj
   ·rw [List.getElem?_append_right hm] at hj
    rcases Nat.eq_zero_or_pos (j - l.length) with h0|h0
    ·rw [h0] at hj
     simp only [List.getElem?_cons_zero,Option.some.injEq,Prod.mk.injEq] at hj
     have:=h.lt i hi
     omega
    ·rw [List.getElem?_eq_none (by simp;omega)] at hj
     cases hj
  ·rw [List.getElem?_append_right hl] at hi
   rcases Nat.eq_zero_or_pos (i - l.length) with h0|h0
   ·rw [h0] at hi
    simp only [List.getElem?_cons_zero,Option.some.injEq,Prod.mk.injEq] at hi
    rcases Nat.lt_or_ge j l.length with hm|hm
    ·rw [List.getElem?_append_left hm] at hj
     have:=h.lt j hj
     omega
    ·rw [List.getElem?_append_right hm] at hj
     rcases Nat.eq_zero_or_pos (j - l.length) with h2|h2
     ·omega
     ·rw [List.getElem?_eq_none (by simp;omega)] at hj
      cases hj
   ·rw [List.getElem?_eq_none (by simp;omega)] at hi
    cases hi
theorem Blk.put {w wr w':World} {l:List (Nat×Array Value×TypeId)} (h:Blk w wr l) (i:Nat) {g:Nat} {c:Array Value} {t:TypeId} (hi:l[i]? = some (g,c,t)) {d:Array Value} (k:Kept (fun x=>x=g) wr w') (hd:w'.heap[g]? = some (.cells d t (0,0))):Blk w w' (l.set i (g,d,t)):=by
 have hil:i < l.length:=(List.getElem?_eq_some_iff.1 hi).1
 refine ⟨fun j g' c' t' hj=>?_,fun j j' g' c1 t1 c2 t2 hj hj'=>?_,h.below.trans (k.toBelow h.below.size (by rintro x rfl;exact h.low i hi))⟩
 ·rw [List.getElem?_set] at hj
  by_cases e:i=j
  ·subst e
   rw [if_pos rfl,if_pos hil] at hj
   simp only [Option.some.injEq,Prod.mk.injEq] at hj
   obtain ⟨rfl,rfl,rfl⟩:=hj
   exact ⟨hd,h.low i hi⟩
  ·rw [if_neg e] at hj
   refine ⟨k.blk (h.get j hj) ?_,h.low j hj⟩
   rintro rfl
   exact e (h.inj i j _ _ _ _ _ hi hj)
 ·have un:∀ (m:Nat) (c0:Array Value) (t0:TypeId),(l.set i (g,d,t))[m]? = some (g',c0,t0)→∃ c0 t0,l[m]? = some (g',c0,t0):=by
   intro m c0 t0 hm
   rw [List.getElem?_set] at hm
   by_cases e:i=m
   ·subst e
    rw [if_pos rfl,if_pos hil] at hm
    simp only [Option.some.injEq,Prod.mk.injEq] at hm
    obtain ⟨rfl, -, -⟩:=hm
    exact ⟨_,_,hi⟩
   ·rw [if_neg e] at hm
    exact ⟨_,_,hm⟩
  obtain ⟨a1,b1,e1⟩:=un j c1 t1 hj
  obtain ⟨a2,b2,e2⟩:=un j' c2 t2 hj'
  exact h.inj j j' _ _ _ _ _ e1 e2
theorem Blk.cell {w wr:World} {l:List (Nat×Array Value×TypeId)} (h:Blk w wr l) (i:Nat) {g:Nat} {c:Array Value} {t:TypeId} (hi:l[i]? = some (g,c,t)) (o:Nat) (v:Value):Blk w (wr.setCell ⟨g,o,none⟩ v) (l.set i (g,c.setIfInBounds o v,t)) :=
 h.put i hi ((Kept.refl (fun x=>x=g) wr).at o v) (blk_setCell (h.get i hi) v)
theorem Blk.ne {w wr:World} {l:List (Nat×Array Value×TypeId)} (h:Blk w wr l) (i j:Nat) {g g':Nat} {c c':Array Value} {t t':TypeId} (hi:l[i]? = some (g,c,t)) (hj:l[j]? = some (g',c',t')) (hij:i≠j):g≠g':=by
 rintro rfl
 exact hij (h.inj i j _ _ _ _ _ hi hj)
theorem Blk.cast {w wr:World} {l l':List (Nat×Array Value×TypeId)} (h:Blk w wr l) (e:l=l'):Blk w wr l':=e▸h
theorem Blk.less {w wr:World} {l:List (Nat×Array Value×TypeId)} (h:Blk w wr l) (n:Nat):Blk w wr (l.take n):=by
 have un:∀ (i:Nat) (x:Nat×Array Value×TypeId),(l.take n)[i]? = some x→l[i]? = some x:=by
  intro i x hx
  rw [List.getElem?_take] at hx
  split at hx
  ·exact hx
  ·cases hx
 exact ⟨fun i g c t hi=>h.mem i g c t (un _ _ hi),fun i j g c t c' t' hi hj=>h.inj i j g c t c' t' (un _ _ hi) (un _ _ hj),h.below⟩
theorem Blk.one (w:World) (c:Array Value) (t:TypeId):Blk w (w.alloc (.cells c t)) [(w.heap.size,c,t)]:=(Blk.nil w).alloc c t
theorem size1 (w:World) (o:Obj):(w.alloc o).heap.size=w.heap.size+1:=by simp
theorem Blk.two (w:World) (c d:Array Value) (t u:TypeId):Blk w ((w.alloc (.cells c t)).alloc (.cells d u)) [(w.heap.size,c,t),(w.heap.size+1,d,u)]:=by
 have:=(Blk.one w c t).alloc d u
 rw [size1] at this
 exact this
theorem Blk.three (w:World) (c d e:Array Value) (t u v:TypeId):Blk w (((w.alloc (.cells c t)).alloc (.cells d u)).alloc (.cells e v)) [(w.heap.size,c,t),(w.heap.size+1,d,u),(w.heap.size+1+1,e,v)]:=by
 have:=(Blk.two w c d t u).alloc e v
 rw [size1,size1] at this
 exact this
theorem Blk.four (w:World) (c d e f:Array Value) (t u v x:TypeId):Blk w ((((w.alloc (.cells c t)).alloc (.cells d u)).alloc (.cells e v)).alloc (.cells f x)) [(w.heap.size,c,t),(w.heap.size+1,d,u),(w.heap.size+1+1,e,v),(w.heap.size+1+1+1,f,x)]:=by
 have:=(Blk.three w c d e t u v).alloc f x
 rw [size1,size1,size1] at this
 exact this
/-! ### Arrays of known length -/
theorem arr_len2 (k k':IntKind) {xs ys:List Int} {n:Nat} (hx:xs.length=n) (hy:ys.length=n):(arr k xs).size=(arr k' ys).size:=by rw [arr_size,arr_size,hx,hy]
theorem arr_get' {w:World} {g:Nat} {k:IntKind} {xs:List Int} {t:TypeId} (h:w.heap[g]? = some (.cells (arr k xs) t (0,0))) (i:Nat) (hi:i < xs.length):w.cell? ⟨g,i,none⟩=some (.int k (xs.getD i 0)):=blk_arr' h i hi
/-- The m-th of parts of equal length. -/
theorem part_mid (k:IntKind) (a b c:List Int) (n:Nat) (ha:a.length=n):((arr k (a ++ (b ++ c))).toList.drop n).take b.length=b.map (Value.int k):=by
 rw [arr_toList,List.map_append,List.map_append,List.drop_left' (by rw [List.length_map];exact ha),List.take_left' (by rw [List.length_map])]
theorem four_part (k:IntKind) (a b c d:List Int) (n:Nat) (ha:a.length=n) (hb:b.length=n) (hc:c.length=n) :
  ((arr k (a ++ (b ++ (c ++ d)))).toList.drop 0).take a.length=a.map (Value.int k)∧((arr k (a ++ (b ++ (c ++ d)))).toList.drop n).take b.length=b.map (Value.int k) ∧
  ((arr k (a ++ (b ++ (c ++ d)))).toList.drop (n+n)).take c.length=c.map (Value.int k)∧((arr k (a ++ (b ++ (c ++ d)))).toList.drop (n+n+n)).take d.length=d.map (Value.int k):=by
 refine ⟨?_,part_mid k a b (c ++ d) n ha,?_,?_⟩
 ·have:=part_mid k [] a (b ++ (c ++ d)) 0 rfl
  simpa using this
 ·have:=part_mid k (a ++ b) c d (n+n) (by rw [List.length_append,ha,hb])
  simpa using this
 ·have:=part_mid k (a ++ (b ++ c)) d [] (n+n+n) (by rw [List.length_append,List.length_append,ha,hb,hc];omega)
  simpa using this
end Go.Proofs.YtodnkallpfkdiaaDoor
namespace Go.Proofs.YtodnkallpfkdiaaDoor
open Go.RowKit
theorem Blk.sel {w wr:World} {l:List (Nat×Array Value×TypeId)} (h:Blk w wr l) (idx:List Nat) (hn:idx.Nodup) (hl:(idx.all fun i=>decide (i < l.length))=true):Blk w wr (idx.map fun i=>l.getD i (0, #[],0)):=by
 have key:∀ (i:Nat) (x:Nat×Array Value×TypeId),(idx.map fun i=>l.getD i (0, #[],0))[i]? = some x→∃ k,idx[i]? = some k∧l[k]? = some x:=by
  intro i x hx
  rw [List.getElem?_map,Option.map_eq_some_iff] at hx
  obtain ⟨k,hk,rfl⟩:=hx
  refine ⟨k,hk,?_⟩
  have:=of_decide_eq_true (List.all_eq_true.1 hl k (List.mem_of_getElem? hk))
  rw [List.getD,List.getElem?_eq_getElem this]
  rfl
 refine ⟨fun i g c t hi=>?_,fun i j g c t c' t' hi hj=>?_,h.below⟩
 ·obtain ⟨k,_,hk⟩:=key _ _ hi
  exact h.mem k g c t hk
 ·obtain ⟨k,e1,hk⟩:=key _ _ hi
  obtain ⟨m,e2,hm⟩:=key _ _ hj
  have:=h.inj k m _ _ _ _ _ hk hm
  subst this
  have hi':=(List.getElem?_eq_some_iff.1 e1)
  have hj':=(List.getElem?_eq_some_iff.1 e2)
  obtain ⟨a1,a2⟩:=hi'
  obtain ⟨b1,b2⟩:=hj'
  exact (List.getElem_inj hn).1 (a2.trans b2.symm)
end Go.Proofs.YtodnkallpfkdiaaDoor
namespace Go.Proofs.YtodnkallpfkdiaaDoor
open Go.RowKit
/-- What the operations that have come up have left. -/
abbrev Fill:=Nat→Option Value
def Fill.upd (f:Fill) (i:Nat) (v:Value):Fill:=fun j=>if j=i then some v else f j
def laid:List Oper→Nat→Fill→Act→Act
 | [],_,_,a=>a
 | o :: l,k,f,a=>laid l (k+1) f (match f k with|some v=>a.put o.dst v|none=>a)
def apartD (x y:Option Tmp):Bool:=match x,y with
 | some d,some e=>d != e
 | _,_=>true
theorem apartD_spec {x y:Option Tmp} (h:apartD x y=true):∀ d,x=some d→y≠some d:=by
 rintro d rfl rfl
 simp [apartD] at h
def distinctD:List Oper→Bool
 | []=>true
 | o :: l=>l.all (fun o'=>apartD o.dst o'.dst) && distinctD l
/-- No guard, and each operation writes a slot of its own that there is. -/
def linB (l:List Oper) (n:Nat):Bool:=l.all (fun o=>o.guard.isNone && (match o.dst with|some s=>decide (s < n)|none=>true)) && distinctD l
theorem laid_congr:∀ (l:List Oper) (k:Nat) (f g:Fill) (a:Act),(∀ i,k≤i→f i=g i)→laid l k f a=laid l k g a
 | [],_,_,_,_,_=>rfl
 | o :: l,k,f,g,a,h=>by
  simp only [laid]
  rw [h k (Nat.le_refl _)]
  exact laid_congr l (k+1) f g _ (fun i hi=>h i (by omega))
theorem laid_put:∀ (l:List Oper) (k:Nat) (f:Fill) (a:Act) (x:Option Tmp) (v:Value),(∀ o∈l,apartD x o.dst=true)→(laid l k f a).put x v=laid l k f (a.put x v)
 | [],_,_,_,_,_,_=>rfl
 | o :: l,k,f,a,x,v,h=>by
  simp only [laid]
  rw [laid_put l (k+1) f _ x v (fun o' ho'=>h o' (List.mem_cons_of_mem _ ho'))]
  congr 1
  cases f k with
  | none=>rfl
  | some u=>exact (Act.put_comm a v u (apartD_spec (h o (List.mem_cons_self ..)))).symm
theorem laid_upd:∀ (l:List Oper) (k:Nat) (f:Fill) (a:Act) (i:Nat) (o:Oper) (v:Value),distinctD l=true→l[i]? = some o→f (k+i)=none→(laid l k f a).put o.dst v=laid l k (f.upd (k+i) v) a
 | [],_,_,_,_,_,_,_,h,_=>by simp at h
 | o :: l,k,f,a,0,o',v,hd,ho,hf=>by
  simp only [distinctD,Bool.and_eq_true,List.all_eq_true] at hd
  simp only [List.getElem?_cons_zero,Option.some.injEq] at ho
  subst ho
  simp only [laid,Nat.add_zero] at hf ⊢
  rw [hf,laid_put l (k+1) f a o.dst v hd.1]
  have e:f.upd k v k=some v:=by simp [Fill.upd]
  simp only [e]
  exact laid_congr l (k+1) f _ _ (fun i hi=>by simp only [Fill.upd];rw [if_neg (by omega)])
 | o :: l,k,f,a,i+1,o',v,hd,ho,hf=>by
  simp only [distinctD,Bool.and_eq_true] at hd
  simp only [List.getElem?_cons_succ] at ho
  simp only [laid]
  rw [laid_upd l (k+1) f _ i o' v hd.2 ho (by rw [← hf];congr 1;omega)]
  have e:f.upd (k+(i+1)) v k=f k:=by simp only [Fill.upd];rw [if_neg (by omega)]
  rw [e,show k+1+i=k+(i+1) by omega]
theorem put_get_ne (a:Act) (x:Option Tmp) (v:Value) (s:Tmp) (h:x≠some s):(a.put x v).tmps.getD s undef=a.tmps.getD s undef:=by
 cases x with
 | none=>rfl
 | some d =>
  have:d≠s:=fun e=>h (by rw [e])
  simp [Act.put,Array.getElem?_setIfInBounds_ne this]
theorem put_size (a:Act) (x:Option Tmp) (v:Value):(a.put x v).tmps.size=a.tmps.size:=by
 cases x <;> simp [Act.put]
theorem laid_old:∀ (l:List Oper) (k:Nat) (f:Fill) (a:Act) (s:Tmp),(∀ o∈l,o.dst≠some s)→(laid l k f a).tmps.getD s undef=a.tmps.getD s undef
 | [],_,_,_,_,_=>rfl
 | o :: l,k,f,a,s,h=>by
  simp only [laid]
  rw [laid_old l (k+1) f _ s (fun o' ho'=>h o' (List.mem_cons_of_mem _ ho'))]
  cases f k with
  | none=>rfl
  | some u=>exact put_get_ne a _ _ s (h o (List.mem_cons_self ..))
theorem laid_new:∀ (l:List Oper) (k:Nat) (f:Fill) (a:Act) (i:Nat) (o:Oper) (s:Tmp) (v:Value),distinctD l=true→l[i]? = some o→o.dst=some s→s < a.tmps.size→f (k+i)=some v→(laid l k f a).tmps.getD s undef=v
 | [],_,_,_,_,_,_,_,_,h,_,_,_=>by simp at h
 | o :: l,k,f,a,0,o',s,v,hd,ho,hs,hn,hf=>by
  simp only [distinctD,Bool.and_eq_true,List.all_eq_true] at hd
  simp only [List.getElem?_cons_zero,Option.some.injEq] at ho
  subst ho
  simp only [laid,Nat.add_zero] at hf ⊢
  rw [hf,laid_old l (k+1) f _ s (fun o' ho' e=>apartD_spec (hd.1 o' ho') s hs e)]
  simp [Act.put,hs,hn]
 | o :: l,k,f,a,i+1,o',s,v,hd,ho,hs,hn,hf=>by
  simp only [distinctD,Bool.and_eq_true] at hd
  simp only [List.getElem?_cons_succ] at ho
  simp only [laid]
  refine laid_new l (k+1) f _ i o' s v hd.2 ho hs ?_ (by rw [← hf];congr 1;omega)
  cases f k with
  | none=>exact hn
  | some u=>rw [put_size];exact hn
/-- Which operations have come up: with each all that it waits for. -/
def Closed (l:List Oper) (f:Fill):Prop:=∀ i o,l[i]? = some o→(f i).isSome=true→∀ e∈o.after,Region.binds .any e=true→(f e.on).isSome=true
def waitsOn (l:List Oper) (i j:Nat):Bool:=match l[i]? with
 | some o=>o.after.any fun e=>Region.binds .any e && e.on == j
 | none=>false
theorem Closed.up {l:List Oper} {f:Fill} (h:Closed l f) (i j:Nat) (hw:waitsOn l i j=true) (hi:(f i).isSome=true):(f j).isSome=true:=by
 unfold waitsOn at hw
 split at hw
 ·rename_i o ho
  obtain ⟨e,he,hb⟩:=Array.any_eq_true'.1 hw
  simp only [Bool.and_eq_true,beq_iff_eq] at hb
  rw [← hb.2]
  exact h i o ho hi e he hb.1
 ·cases hw
/-- What waits for one that has not come up has not come up. -/
theorem Closed.down {l:List Oper} {f:Fill} (h:Closed l f) (i j:Nat) (hw:waitsOn l i j=true) (hj:f j=none):f i=none:=by
 cases hi:f i with
 | none=>rfl
 | some v =>
  have:=h.up i j hw (by rw [hi];rfl)
  rw [hj] at this
  cases this
/-- What the frame a' shows of the values f beside the frame a. -/
structure Sees (l:List Oper) (f:Fill) (a a':Act):Prop where
 new:∀ i o s v,l[i]? = some o→o.dst=some s→f i=some v→a'.tmps.getD s undef=v
 old:∀ s,(l.all fun o=>o.dst != some s)=true→a'.tmps.getD s undef=a.tmps.getD s undef
theorem Sees.val {l:List Oper} {f:Fill} {a a':Act} (h:Sees l f a a') (i:Nat) (s:Tmp) {v:Value} (hi:(l[i]?).bind (·.dst)=some s) (hf:f i=some v):a'.eval (.tmp s)=v:=by
 obtain ⟨o,ho,hs⟩:=Option.bind_eq_some_iff.1 hi
 exact h.new i o s v ho hs hf
theorem Sees.old' {l:List Oper} {f:Fill} {a a':Act} (h:Sees l f a a') (s:Tmp) (hs:(l.all fun o=>o.dst != some s)=true) {v:Value} (hv:a.tmps.getD s undef=v):a'.eval (.tmp s)=v:=(h.old s hs).trans hv
section
variable {P:Program} {Q:Exit→Act→World→Prop}
/-- What is to be shown of operation number i. -/
def LinStep (P:Program) (Q:Exit→Act→World→Prop) (l:List Oper) (J:Fill→World→Prop) (a:Act) (i:Nat) (o:Oper):Prop :=
 ∀ (f:Fill) (b:Act) (u:World) (K:Act→World→Prop),J f u→f i=none→Closed l f→(∀ j,waitsOn l i j=true→(f j).isSome=true)→Sees l f a b →
  (∀ v u',J (f.upd i v) u'→K (b.put o.dst v) u')→if Region.wanted o (yielded l.toArray b.tmps)=true then Oper.wp P o b u K Q else False
def LinAll (P:Program) (Q:Exit→Act→World→Prop) (l:List Oper) (J:Fill→World→Prop) (a:Act):List Oper→Nat→Prop
 | [],_=>True
 | o :: r,k=>LinStep P Q l J a k o∧LinAll P Q l J a r (k+1)
theorem LinAll.nil {l:List Oper} {J:Fill→World→Prop} {a:Act} {k:Nat}:LinAll P Q l J a [] k:=trivial
theorem LinAll.cons {l:List Oper} {J:Fill→World→Prop} {a:Act} {o:Oper} {r:List Oper} {k:Nat} (h:LinStep P Q l J a k o) (hr:LinAll P Q l J a r (k+1)):LinAll P Q l J a (o :: r) k:=⟨h,hr⟩
theorem LinAll.at {l:List Oper} {J:Fill→World→Prop} {a:Act}:∀ {r:List Oper} {k:Nat},LinAll P Q l J a r k→∀ i o,r[i]? = some o→LinStep P Q l J a (k+i) o
 | [],_,_,_,_,h=>by simp at h
 | o :: r,k,h,0,o',ho=>by
  simp only [List.getElem?_cons_zero,Option.some.injEq] at ho
  subst ho
  exact h.1
 | o :: r,k,h,i+1,o',ho=>by
  simp only [List.getElem?_cons_succ] at ho
  rw [show k+(i+1)=k+1+i by omega]
  exact LinAll.at h.2 i o' ho
def unl:Nat→Fill→Nat
 | 0,_=>0
 | n+1,f=>unl n f+(if (f n).isNone then 1 else 0)
theorem unl_same:∀ (n:Nat) (f:Fill) (i:Nat) (v:Value),n≤i→unl n (f.upd i v)=unl n f
 | 0,_,_,_,_=>rfl
 | n+1,f,i,v,h=>by
  have e:f.upd i v n=f n:=by simp only [Fill.upd];rw [if_neg (by omega)]
  simp only [unl,e]
  rw [unl_same n f i v (by omega)]
theorem unl_upd:∀ (n:Nat) (f:Fill) (i:Nat) (v:Value),i < n→f i=none→unl n (f.upd i v)+1=unl n f
 | 0,_,_,_,h,_=>absurd h (Nat.not_lt_zero _)
 | n+1,f,i,v,h,hf=>by
  simp only [unl]
  by_cases e:i=n
  ·subst e
   rw [unl_same i f i v (Nat.le_refl _)]
   simp [Fill.upd,hf]
  ·have h2:f.upd i v n=f n:=by simp only [Fill.upd];rw [if_neg (by omega)]
   rw [h2]
   have:=unl_upd n f i v (by omega) hf
   omega
theorem unl_zero:∀ (n:Nat) (f:Fill),unl n f=0→∀ i,i < n→(f i).isSome=true
 | 0,_,_,_,h=>absurd h (Nat.not_lt_zero _)
 | n+1,f,h,i,hi=>by
  simp only [unl] at h
  by_cases e:i=n
  ·subst e
   cases hf:f i with
   | none=>rw [hf] at h;simp at h
   | some v=>rfl
  ·exact unl_zero n f (by omega) i (by omega)
theorem unl_le:∀ (n:Nat) (f:Fill),unl n f≤n
 | 0,_=>Nat.le_refl _
 | n+1,f=>by
  have:=unl_le n f
  simp only [unl]
  split <;> omega
/-- Nobody waits for a later one. -/
def backB (l:List Oper):Bool:=(List.range l.length).all fun i=>match l[i]? with
 | some o=>o.after.all fun e => !Region.binds .any e || decide (e.on < i)
 | none=>true
theorem wp_region_lin {id:Nat} {a:Act} {w:World} {l:List Oper} (J:Fill→World→Prop) (hm:P.follows .mixedOrders=true) (hB:(linB l a.tmps.size && backB l)=true)
  (h0:J (fun _=>none) w.drew) (hs:LinAll P Q l J a l 0)
  (hend:∀ f u,(∀ i,i < l.length→(f i).isSome=true)→J f u→Q .normal (laid l 0 f a) u):(Code.region id l.toArray true).wp P Q a w:=by
 refine wp_region_any hm ?_
 simp only [linB,Bool.and_eq_true,List.all_eq_true] at hB
 obtain ⟨⟨hg,hd⟩,hbk⟩:=hB
 have hback:∀ i o,l[i]? = some o→∀ e∈o.after,Region.binds .any e=true→e.on < i:=by
  intro i o ho e he hb
  have hlt:i < l.length:=(List.getElem?_eq_some_iff.1 ho).1
  have h1:=List.all_eq_true.1 hbk i (List.mem_range.2 hlt)
  rw [ho] at h1
  have h2:=Array.all_eq_true_iff_forall_mem.1 h1 e he
  simpa [hb] using h2
 have main:∀ (fuel:Nat) (listed:Array Bool) (f:Fill) (u:World),listed.size=l.length→(∀ i,i < l.length→listed.getD i false=(f i).isSome)→Closed l f→J f u →
   unl l.length f≤fuel→wpAny P .any l.toArray Q fuel listed (laid l 0 f a) u:=by
  intro fuel
  have lt_of:∀ {j:Nat} {o:Oper},l.toArray[j]? = some o→j < l.length∧l[j]? = some o:=by
   intro j o h
   have h2:l[j]? = some o:=by simpa using h
   exact ⟨(List.getElem?_eq_some_iff.1 h2).1,h2⟩
  have getT:∀ (listed:Array Bool) (j:Nat),listed.size=l.length→j < l.length→listed.getD j true=listed.getD j false:=by
   intro listed j h1 h2
   simp [h1,h2]
  have endd:∀ (listed:Array Bool) (f:Fill) (u:World),listed.size=l.length→(∀ i,i < l.length→listed.getD i false=(f i).isSome)→J f u→Region.ready .any l.toArray listed=[]→Q .normal (laid l 0 f a) u:=by
   intro listed f u hls hlf hJ hr
   refine hend f u (fun i=>?_) hJ
   induction i using Nat.strongRecOn with
   | _ i ih =>
    intro hi
    cases hf:f i with
    | some v=>rfl
    | none =>
     exfalso
     have hm:i∈Region.ready .any l.toArray listed:=by
      refine mem_ready.2 ⟨?_,l[i],by simp [hi],fun e he hb=>?_⟩
      ·rw [getT _ _ hls hi,hlf i hi,hf];rfl
      ·have h1:=hback i l[i] (List.getElem?_eq_getElem hi) e he hb
       rw [hlf _ (by omega)]
       exact ih e.on h1 (by omega)
     rw [hr] at hm
     cases hm
  induction fuel with
  | zero =>
   intro listed f u hls hlf hcl hJ hun
   have hall:=unl_zero l.length f (by omega)
   have hr:Region.ready .any l.toArray listed=[]:=by
    apply List.eq_nil_iff_forall_not_mem.2
    intro j hj
    obtain ⟨h1,o,ho,_⟩:=mem_ready.1 hj
    have hlt:=(lt_of ho).1
    rw [getT _ _ hls hlt,hlf j hlt,hall j hlt] at h1
    cases h1
   exact ⟨hr,endd listed f u hls hlf hJ hr⟩
  | succ fuel ih =>
   intro listed f u hls hlf hcl hJ hun
   refine ⟨endd listed f u hls hlf hJ,fun i hi=>?_⟩
   obtain ⟨hl,o,ho,hall⟩:=mem_ready.1 hi
   obtain ⟨hlt,ho'⟩:=lt_of ho
   have hfi:f i=none:=by
    rw [getT _ _ hls hlt,hlf i hlt] at hl
    cases e:f i with
    | none=>rfl
    | some v=>rw [e] at hl;cases hl
   have hst:=(by simpa using hs.at i o ho':LinStep P Q l J a i o)
   have hgo:=hg o (List.mem_of_getElem? ho')
   simp only [Option.isNone_iff_eq_none] at hgo
   have hwant:Region.wanted o (yielded l.toArray (laid l 0 f a).tmps)=true:=by simp [Region.wanted,hgo.1]
   have hsees:Sees l f a (laid l 0 f a):=by
    refine ⟨fun j oj s v hoj hsj hv=>?_,fun s hs=>?_⟩
    ·refine laid_new l 0 f a j oj s v hd hoj hsj ?_ (by simpa using hv)
     have:=(hg oj (List.mem_of_getElem? hoj)).2
     rw [hsj] at this
     exact of_decide_eq_true this
    ·refine laid_old l 0 f a s (fun o' ho' e=>?_)
     have:=List.all_eq_true.1 hs o' ho'
     simp [e] at this
   have hup:∀ j,waitsOn l i j=true→(f j).isSome=true:=by
    intro j hw
    unfold waitsOn at hw
    rw [ho'] at hw
    obtain ⟨e,he,hb⟩:=Array.any_eq_true'.1 hw
    simp only [Bool.and_eq_true,beq_iff_eq] at hb
    have h1:=hall e he hb.1
    have h2:=hback i o ho' e he hb.1
    rw [hlf _ (by omega)] at h1
    rw [← hb.2];exact h1
   have H:=hst f (laid l 0 f a) u (fun b u'=>wpAny P .any l.toArray Q fuel (listed.setIfInBounds i true) b u') hJ hfi hcl hup hsees (fun v u' hJ'=>by
    rw [laid_upd l 0 f a i o v hd ho' (by simpa using hfi),Nat.zero_add]
    refine ih _ _ _ (by simpa using hls) (fun k hk=>?_) (fun k ok hok hks e he hb=>?_) hJ' ?_
    ·by_cases e:k=i
     ·subst e
      simp [Fill.upd,hls,hk]
     ·rw [getD_set_ne false (Ne.symm e),hlf k hk]
      simp [Fill.upd,e]
    ·by_cases e2:e.on=i
     ·simp [Fill.upd,e2]
     ·have h3:(f.upd i v e.on)=f e.on:=by simp [Fill.upd,e2]
      rw [h3]
      by_cases e3:k=i
      ·subst e3
       rw [ho'] at hok
       cases hok
       have h1:=hall e he hb
       have h2:=hback k o ho' e he hb
       rwa [hlf _ (by omega)] at h1
      ·have h4:f.upd i v k=f k:=by simp [Fill.upd,e3]
       rw [h4] at hks
       exact hcl k ok hok hks e he hb
    ·have:=unl_upd l.length f i v hlt hfi
     omega)
   rw [if_pos hwant] at H
   unfold wpOp
   simp only [ho,hwant,if_true]
   exact .inl H
 have h:=main l.length (Array.replicate l.length false) (fun _=>none) w.drew (by simp) (fun i hi=>by simp [hi]) (fun i o _ h=>by cases h) h0 (unl_le _ _)
 have e0:laid l 0 (fun _=>none) a=a:=by
  have:∀ (l:List Oper) (k:Nat),laid l k (fun _=>none) a=a:=by
   intro l
   induction l with
   | nil=>intro k;rfl
   | cons o l ih=>intro k;simp only [laid];exact ih (k+1)
  exact this l 0
 rw [e0] at h
 have e1:l.toArray.size=l.length:=by simp
 rw [e1]
 exact h
end
end Go.Proofs.YtodnkallpfkdiaaDoor
namespace Go.Proofs.YtodnkallpfkdiaaDoor
open Go.RowKit
section
variable {P:Program} {Q:Exit→Act→World→Prop} {ops:Array Oper}
theorem lin_pure {o:Oper} {b:Act} {u:World} {K:Act→World→Prop} {E:Prop} (hgd:o.guard=none) (v:Value) (hrun:(execOp b.eval o).run P u = .ok (.value v) u) (h:K (b.put o.dst v) u) :
  if Region.wanted o (yielded ops b.tmps)=true then Oper.wp P o b u K Q else E:=by
 have hw:Region.wanted o (yielded ops b.tmps)=true:=by simp [Region.wanted,hgd]
 rw [if_pos hw]
 unfold Oper.wp
 rw [hrun]
 exact h
theorem wpList_load_wanted {rest:List Oper} {o:Oper} {a:Act} {w:World} (hgd:Region.wanted o (yielded ops a.tmps)=true) (ty:TypeId) (x:Operand) (ho:o.op = .load ty x)
  (g off:Nat) (cs:Array Value) (t:TypeId) (fr:Nat×Nat) (d:TypeDesc) (hb:w.heap[g]? = some (.cells cs t fr)) (hx:a.eval x = .pointer (some ⟨g,off,none⟩)) (k:IntKind) (xs:List Int)
  (hp:(cs.toList.drop off).take xs.length=xs.map (Value.int k)) (hu:P.underlying ty=some d) (hd:d.isRow=true) (hi:(P.info? ty).map (·.size)=some xs.length)
  (h:wpList P ops Q rest (a.put o.dst (.agg (arr k xs))) w):wpList P ops Q (o :: rest) a w:=by
 unfold wpList
 rw [if_pos hgd]
 left
 exact wp_load_mid ty x ho g off hx (xs.map (Value.int k)) d (range_part hb off _ (by rw [List.length_map];exact hp)) hu hd (by rw [List.length_map];exact hi) h
theorem exec_build_l {o:Oper} {ev:Operand→Value} {w:World} (t:TypeId) (ps:Array (Nat×Operand)) (ho:o.op = .build t ps) (vs:Array (Nat×Value)) (hvs:ps.toList.map (fun p=>(p.1,ev p.2))=vs.toList) (v:Value) (hrun:(Instr.build t vs).run P w = .ok v w):(execOp ev o).run P w = .ok (.value v) w:=by
 have hv:ps.map (fun p=>(p.1,ev p.2))=vs:=by apply Array.toList_inj.1;rw [Array.toList_map];exact hvs
 simp only [execOp,ho,hv,Sem.run_bind,hrun,Result.andThen_ok]
 rfl
theorem lin_call {o:Oper} {b:Act} {u:World} {K:Act→World→Prop} {E:Prop} (hgd:o.guard=none) (F:FuncId) (xs:List Operand) (ts:Array TypeId) (vs:List Value)
  (ho:o.op = .call { callee := .value (.func F),args:=xs.toArray,argTypes:=ts }) (hv:xs.map b.eval=vs) (hF:∀ (args:Array Value) (u:World),(callFunc F args).run P u = .ok (.enter F args) u)
  (h:Calls P F vs.toArray u (fun e w'=>∃ v,e = .returned v∧K (b.put o.dst v) w')) :
  if Region.wanted o (yielded ops b.tmps)=true then Oper.wp P o b u K Q else E:=by
 have hw:Region.wanted o (yielded ops b.tmps)=true:=by simp [Region.wanted,hgd]
 rw [if_pos hw]
 unfold Oper.wp
 have e:(execOp b.eval o).run P u = .ok (.enter F vs.toArray) u:=by
  have hv':xs.toArray.map b.eval=vs.toArray:=by rw [List.map_toArray,hv]
  simp only [execOp,ho,resolve,hv',Act.eval,Deferred.ofValue,Sem.run_bind,Sem.run_pure,Result.andThen_ok,invoke,Array.append_empty,Array.empty_append,hF]
 rw [e]
 exact Calls.mono h (fun e w' ⟨v,he,hk⟩=>by subst he;exact hk)
theorem Sees.at {l:List Oper} {f:Fill} {a b:Act} {i:Nat} (hs:Sees l f a b) (hup:∀ j,waitsOn l i j=true→(f j).isSome=true) (j:Nat) (s:Tmp) (hw:waitsOn l i j=true) (hd:(l[j]?).bind (·.dst)=some s)
  {V:Value} {R:Prop} (hV:∀ v,f j=some v→v=V∧R):b.eval (.tmp s)=V∧R:=by
 obtain ⟨v,hv⟩:=sE (hup j hw)
 obtain ⟨h1,h2⟩:=hV v hv
 exact ⟨(hs.val j s hd hv).trans h1,h2⟩
/-- The block that an alloc has left, if it has come up. -/
def ent (o:Option Value) (c:Array Value) (t:TypeId):List (Nat×Array Value×TypeId):=match o with
 | some (.pointer (some a))=>[(a.block,c,t)]
 | some (.slice (some a) _ _)=>[(a.block,c,t)]
 | _=>[]
theorem ent_none (c:Array Value) (t:TypeId):ent none c t=[]:=rfl
theorem ent_some (g:Nat) (c:Array Value) (t:TypeId):ent (some (.pointer (some ⟨g,0,none⟩))) c t=[(g,c,t)]:=rfl
theorem ent_slice (g n m:Nat) (c:Array Value) (t:TypeId):ent (some (.slice (some ⟨g,0,none⟩) n m)) c t=[(g,c,t)]:=rfl
theorem Blk.perm {w wr:World} {l l':List (Nat×Array Value×TypeId)} (h:Blk w wr l) (p:l.Perm l'):Blk w wr l':=by
 have hmem:∀ g c t,(g,c,t)∈l→wr.heap[g]? = some (.cells c t (0,0))∧w.heap.size≤g:=by
  intro g c t hm
  obtain ⟨i,hi⟩:=List.getElem?_of_mem hm
  exact h.mem i g c t hi
 have hpw:l.Pairwise (fun x y=>x.1≠y.1):=by
  rw [List.pairwise_iff_getElem]
  intro i j hi hj hij e
  obtain ⟨⟨g,c,t⟩,hx⟩:∃ x,l[i]=x:=⟨_,rfl⟩
  obtain ⟨⟨g',c',t'⟩,hy⟩:∃ x,l[j]=x:=⟨_,rfl⟩
  rw [hx,hy] at e
  have e':g=g':=e
  subst e'
  have:=h.inj i j g c t c' t' (by rw [List.getElem?_eq_getElem hi,hx]) (by rw [List.getElem?_eq_getElem hj,hy])
  omega
 have hpw':l'.Pairwise (fun x y=>x.1≠y.1):=(p.pairwise_iff (fun h=>Ne.symm h)).1 hpw
 refine ⟨fun i g c t hi=>hmem g c t (p.mem_iff.2 (List.mem_of_getElem? hi)),fun i j g c t c' t' hi hj=>?_,h.below⟩
 obtain ⟨hi1,hi2⟩:=List.getElem?_eq_some_iff.1 hi
 obtain ⟨hj1,hj2⟩:=List.getElem?_eq_some_iff.1 hj
 rw [List.pairwise_iff_getElem] at hpw'
 rcases Nat.lt_trichotomy i j with hlt|heq|hgt
 ·exact absurd (by rw [hi2,hj2]) (hpw' i j hi1 hj1 hlt)
 ·exact heq
 ·exact absurd (by rw [hi2,hj2]) (hpw' j i hj1 hi1 hgt)
theorem perm_ins {α:Type} (a b:List α) (x:α):((a ++ b) ++ [x]).Perm (a ++ ([x] ++ b)):=(List.perm_append_singleton x (a ++ b)).trans List.perm_middle.symm
theorem Blk.ins {w wr:World} {l a b l':List (Nat×Array Value×TypeId)} (h:Blk w wr l) (c:Array Value) (t:TypeId) (e:l=a ++ b) (e':a ++ ([(wr.heap.size,c,t)] ++ b)=l'):Blk w (wr.alloc (.cells c t)) l':=by
 subst e e'
 exact (h.alloc c t).perm (perm_ins a b _)
end
end Go.Proofs.YtodnkallpfkdiaaDoor
namespace Go.Proofs.YtodnkallpfkdiaaDoor
open Go.RowKit
def linB2 (l:List Oper) (n:Nat):Bool:=l.all (fun o=>match o.dst with|some s=>decide (s < n)|none=>true) && distinctD l
section
variable {P:Program} {Q:Exit→Act→World→Prop}
/-- What is to be shown of operation number i. -/
def LinStepG (P:Program) (Q:Exit→Act→World→Prop) (l:List Oper) (J:Fill→World→Prop) (a:Act) (i:Nat) (o:Oper):Prop :=
 ∀ (f:Fill) (b:Act) (u:World) (K:Act→World→Prop),J f u→f i=none→Closed l f→(∀ j,waitsOn l i j=true→(f j).isSome=true)→Sees l f a b →
  (∀ v u',J (f.upd i v) u'→K (b.put o.dst v) u')→if Region.wanted o (yielded l.toArray b.tmps)=true then Oper.wp P o b u K Q else K (b.put o.dst undef) u
def LinAllG (P:Program) (Q:Exit→Act→World→Prop) (l:List Oper) (J:Fill→World→Prop) (a:Act):List Oper→Nat→Prop
 | [],_=>True
 | o :: r,k=>LinStepG P Q l J a k o∧LinAllG P Q l J a r (k+1)
theorem LinAllG.nil {l:List Oper} {J:Fill→World→Prop} {a:Act} {k:Nat}:LinAllG P Q l J a [] k:=trivial
theorem LinAllG.cons {l:List Oper} {J:Fill→World→Prop} {a:Act} {o:Oper} {r:List Oper} {k:Nat} (h:LinStepG P Q l J a k o) (hr:LinAllG P Q l J a r (k+1)):LinAllG P Q l J a (o :: r) k:=⟨h,hr⟩
theorem LinAllG.at {l:List Oper} {J:Fill→World→Prop} {a:Act}:∀ {r:List Oper} {k:Nat},LinAllG P Q l J a r k→∀ i o,r[i]? = some o→LinStepG P Q l J a (k+i) o
 | [],_,_,_,_,h=>by simp at h
 | o :: r,k,h,0,o',ho=>by
  simp only [List.getElem?_cons_zero,Option.some.injEq] at ho
  subst ho
  exact h.1
 | o :: r,k,h,i+1,o',ho=>by
  simp only [List.getElem?_cons_succ] at ho
  rw [show k+(i+1)=k+1+i by omega]
  exact LinAllG.at h.2 i o' ho
theorem wp_region_ling {id:Nat} {a:Act} {w:World} {l:List Oper} (J:Fill→World→Prop) (hm:P.follows .mixedOrders=true) (hB:(linB2 l a.tmps.size && backB l)=true)
  (h0:J (fun _=>none) w.drew) (hs:LinAllG P Q l J a l 0)
  (hend:∀ f u,(∀ i,i < l.length→(f i).isSome=true)→J f u→Q .normal (laid l 0 f a) u):(Code.region id l.toArray true).wp P Q a w:=by
 refine wp_region_any hm ?_
 simp only [linB2,Bool.and_eq_true,List.all_eq_true] at hB
 obtain ⟨⟨hg,hd⟩,hbk⟩:=hB
 have hback:∀ i o,l[i]? = some o→∀ e∈o.after,Region.binds .any e=true→e.on < i:=by
  intro i o ho e he hb
  have hlt:i < l.length:=(List.getElem?_eq_some_iff.1 ho).1
  have h1:=List.all_eq_true.1 hbk i (List.mem_range.2 hlt)
  rw [ho] at h1
  have h2:=Array.all_eq_true_iff_forall_mem.1 h1 e he
  simpa [hb] using h2
 have main:∀ (fuel:Nat) (listed:Array Bool) (f:Fill) (u:World),listed.size=l.length→(∀ i,i < l.length→listed.getD i false=(f i).isSome)→Closed l f→J f u →
   unl l.length f≤fuel→wpAny P .any l.toArray Q fuel listed (laid l 0 f a) u:=by
  intro fuel
  have lt_of:∀ {j:Nat} {o:Oper},l.toArray[j]? = some o→j < l.length∧l[j]? = some o:=by
   intro j o h
   have h2:l[j]? = some o:=by simpa using h
   exact ⟨(List.getElem?_eq_some_iff.1 h2).1,h2⟩
  have getT:∀ (listed:Array Bool) (j:Nat),listed.size=l.length→j < l.length→listed.getD j true=listed.getD j false:=by
   intro listed j h1 h2
   simp [h1,h2]
  have endd:∀ (listed:Array Bool) (f:Fill) (u:World),listed.size=l.length→(∀ i,i < l.length→listed.getD i false=(f i).isSome)→J f u→Region.ready .any l.toArray listed=[]→Q .normal (laid l 0 f a) u:=by
   intro listed f u hls hlf hJ hr
   refine hend f u (fun i=>?_) hJ
   induction i using Nat.strongRecOn with
   | _ i ih =>
    intro hi
    cases hf:f i with
    | some v=>rfl
    | none =>
     exfalso
     have hm:i∈Region.ready .any l.toArray listed:=by
      refine mem_ready.2 ⟨?_,l[i],by simp [hi],fun e he hb=>?_⟩
      ·rw [getT _ _ hls hi,hlf i hi,hf];rfl
      ·have h1:=hback i l[i] (List.getElem?_eq_getElem hi) e he hb
       rw [hlf _ (by omega)]
       exact ih e.on h1 (by omega)
     rw [hr] at hm
     cases hm
  induction fuel with
  | zero =>
   intro listed f u hls hlf hcl hJ hun
   have hall:=unl_zero l.length f (by omega)
   have hr:Region.ready .any l.toArray listed=[]:=by
    apply List.eq_nil_iff_forall_not_mem.2
    intro j hj
    obtain ⟨h1,o,ho,_⟩:=mem_ready.1 hj
    have hlt:=(lt_of ho).1
    rw [getT _ _ hls hlt,hlf j hlt,hall j hlt] at h1
    cases h1
   exact ⟨hr,endd listed f u hls hlf hJ hr⟩
  | succ fuel ih =>
   intro listed f u hls hlf hcl hJ hun
   refine ⟨endd listed f u hls hlf hJ,fun i hi=>?_⟩
   obtain ⟨hl,o,ho,hall⟩:=mem_ready.1 hi
   obtain ⟨hlt,ho'⟩:=lt_of ho
   have hfi:f i=none:=by
    rw [getT _ _ hls hlt,hlf i hlt] at hl
    cases e:f i with
    | none=>rfl
    | some v=>rw [e] at hl;cases hl
   have hst:=(by simpa using hs.at i o ho':LinStepG P Q l J a i o)
   have hsees:Sees l f a (laid l 0 f a):=by
    refine ⟨fun j oj s v hoj hsj hv=>?_,fun s hs=>?_⟩
    ·refine laid_new l 0 f a j oj s v hd hoj hsj ?_ (by simpa using hv)
     have:=hg oj (List.mem_of_getElem? hoj)
     rw [hsj] at this
     exact of_decide_eq_true this
    ·refine laid_old l 0 f a s (fun o' ho' e=>?_)
     have:=List.all_eq_true.1 hs o' ho'
     simp [e] at this
   have hup:∀ j,waitsOn l i j=true→(f j).isSome=true:=by
    intro j hw
    unfold waitsOn at hw
    rw [ho'] at hw
    obtain ⟨e,he,hb⟩:=Array.any_eq_true'.1 hw
    simp only [Bool.and_eq_true,beq_iff_eq] at hb
    have h1:=hall e he hb.1
    have h2:=hback i o ho' e he hb.1
    rw [hlf _ (by omega)] at h1
    rw [← hb.2];exact h1
   have H:=hst f (laid l 0 f a) u (fun b u'=>wpAny P .any l.toArray Q fuel (listed.setIfInBounds i true) b u') hJ hfi hcl hup hsees (fun v u' hJ'=>by
    rw [laid_upd l 0 f a i o v hd ho' (by simpa using hfi),Nat.zero_add]
    refine ih _ _ _ (by simpa using hls) (fun k hk=>?_) (fun k ok hok hks e he hb=>?_) hJ' ?_
    ·by_cases e:k=i
     ·subst e
      simp [Fill.upd,hls,hk]
     ·rw [getD_set_ne false (Ne.symm e),hlf k hk]
      simp [Fill.upd,e]
    ·by_cases e2:e.on=i
     ·simp [Fill.upd,e2]
     ·have h3:(f.upd i v e.on)=f e.on:=by simp [Fill.upd,e2]
      rw [h3]
      by_cases e3:k=i
      ·subst e3
       rw [ho'] at hok
       cases hok
       have h1:=hall e he hb
       have h2:=hback k o ho' e he hb
       rwa [hlf _ (by omega)] at h1
      ·have h4:f.upd i v k=f k:=by simp [Fill.upd,e3]
       rw [h4] at hks
       exact hcl k ok hok hks e he hb
    ·have:=unl_upd l.length f i v hlt hfi
     omega)
   unfold wpOp
   simp only [ho]
   split
   ·rename_i hw
    rw [if_pos hw] at H
    exact .inl H
   ·rename_i hw
    rw [if_neg hw] at H
    exact H
 have h:=main l.length (Array.replicate l.length false) (fun _=>none) w.drew (by simp) (fun i hi=>by simp [hi]) (fun i o _ h=>by cases h) h0 (unl_le _ _)
 have e0:laid l 0 (fun _=>none) a=a:=by
  have:∀ (l:List Oper) (k:Nat),laid l k (fun _=>none) a=a:=by
   intro l
   induction l with
   | nil=>intro k;rfl
   | cons o l ih=>intro k;simp only [laid];exact ih (k+1)
  exact this l 0
 rw [e0] at h
 have e1:l.toArray.size=l.length:=by simp
 rw [e1]
 exact h
theorem wanted_of {l:List Oper} {o:Oper} {j s:Nat} {b:Act} (hg:o.guard=some (j,true)) (hd:(l[j]?).bind (·.dst)=some s) (hv:b.eval (.tmp s) = .bool true):Region.wanted o (yielded l.toArray b.tmps)=true:=by
 have h1:b.tmps[s]? = some (.bool true):=by
  have h2:b.tmps.getD s undef = .bool true:=hv
  rw [Array.getD_eq_getD_getElem?] at h2
  cases h3:b.tmps[s]? with
  | none=>rw [h3] at h2;cases h2
  | some v=>rw [h3] at h2;rw [show v = .bool true from h2]
 have h4:yielded l.toArray b.tmps j=some true:=by
  unfold yielded
  rw [show (l.toArray[j]?).bind (·.dst)=some s by simpa using hd]
  simp [h1]
 simp [Region.wanted,hg,h4]
theorem lin_callW {ops:Array Oper} {o:Oper} {b:Act} {u:World} {K:Act→World→Prop} {E:Prop} (hw:Region.wanted o (yielded ops b.tmps)=true) (F:FuncId) (xs:List Operand) (ts:Array TypeId) (vs:List Value)
  (ho:o.op = .call { callee := .value (.func F),args:=xs.toArray,argTypes:=ts }) (hv:xs.map b.eval=vs) (hF:∀ (args:Array Value) (u:World),(callFunc F args).run P u = .ok (.enter F args) u)
  (h:Calls P F vs.toArray u (fun e w'=>∃ v,e = .returned v∧K (b.put o.dst v) w')) :
  if Region.wanted o (yielded ops b.tmps)=true then Oper.wp P o b u K Q else E:=by
 rw [if_pos hw]
 have h0:=lin_call (P:=P) (Q:=Q) (ops := #[]) (o:={ o with guard:=none }) (b:=b) (u:=u) (K:=K) (E:=True) rfl F xs ts vs ho hv hF h
 rw [if_pos (by simp [Region.wanted])] at h0
 exact h0
theorem lin_pureW {ops:Array Oper} {o:Oper} {b:Act} {u:World} {K:Act→World→Prop} {E:Prop} (hw:Region.wanted o (yielded ops b.tmps)=true) (v:Value) (hrun:(execOp b.eval o).run P u = .ok (.value v) u) (h:K (b.put o.dst v) u) :
  if Region.wanted o (yielded ops b.tmps)=true then Oper.wp P o b u K Q else E:=by
 rw [if_pos hw]
 unfold Oper.wp
 rw [hrun]
 exact h
/-- A guarded operation that is wanted is as one without a guard. -/
theorem lin_unguard {ops:Array Oper} {o:Oper} {b:Act} {u:World} {K:Act→World→Prop} {E:Prop} (hw:Region.wanted o (yielded ops b.tmps)=true)
  (h:if Region.wanted { o with guard:=none } (yielded ops b.tmps)=true then Oper.wp P { o with guard:=none } b u K Q else E) :
  if Region.wanted o (yielded ops b.tmps)=true then Oper.wp P o b u K Q else E:=by
 rw [if_pos (show Region.wanted { o with guard:=none } (yielded ops b.tmps)=true by simp [Region.wanted])] at h
 rw [if_pos hw]
 exact h
theorem exec_slice {o:Oper} {ev:Operand→Value} {w:World} (t:TypeId) (x:Operand) (lo hi:Option Operand) (ho:o.op = .slice t x lo hi none) (vx:Value) (vlo vhi:Option Value) (hx:ev x=vx) (hlo:lo.map ev=vlo) (hhi:hi.map ev=vhi) (v:Value)
  (hrun:(Instr.sliceAt t vx vlo vhi none).run P w = .ok v w):(execOp ev o).run P w = .ok (.value v) w:=by
 simp only [execOp,ho,hx,hlo,hhi,Option.map_none,Sem.run_bind,hrun,Result.andThen_ok]
 rfl
end
end Go.Proofs.YtodnkallpfkdiaaDoor
