/- A list of blocks of the call's own, told whole. Lists of bytes: Bytes of strings. Arguments of a law, opened: A slice of bytes that came in, as a source; A scope out of which the r. Condition: as each theorem says. -/
import Derived.Deep.DeepCutAuto
import Derived.Deep.Slices
import Derived.Lib.AppendStr
import Derived.Lib.ConvBytes
import Derived.OpenShut
import Derived.ProofKit
import Derived.ScopeJumps
import Derived.WalkMore
import Derived.Test.YthdgbgleklkaiaaDoorQb01
import Derived.Test.YthdgbgleklkaiaaDoorQb03
open Nat renaming eq_zero_or_pos→acD,lt_or_ge→acG
open List renaming length_append→acE,getElem?_append_left→acH,getElem?_append_right→acI,getElem?_eq_none→acJ,getD→acK,getElem?_cons_zero→acL,map_append→acM,length_map→acN,getElem?_set→acO,flatten_append→acP,eq_nil_of_length_eq_zero→acQ,getElem?_eq_getElem→acR
open Go.Lib renaming hid→acF
set_option linter.unusedSimpArgs false
set_option linter.unusedVariables false
namespace Go.Proofs.YthdgbgleklkaiaaDoor
open Go.RowKit
structure bM (w wr:World) (l:List (Nat×Array Value×TypeId)):Prop where
 mem:∀ (i g:Nat) (c:Array Value) (t:TypeId),l[i]? = some (g,c,t)→wr.heap[g]? = some (.cells c t (0,0))∧w.heap.size≤g
 inj:∀ (i j:Nat) (g:Nat) (c:Array Value) (t:TypeId) (c':Array Value) (t':TypeId),l[i]? = some (g,c,t)→l[j]? = some (g,c',t')→i=j
 below:Below w.heap.size w wr
theorem bM.nil (w:World):bM w w []:=⟨fun _ _ _ _ h=>by simp at h,fun _ _ _ _ _ _ _ h=>by simp at h,Below.refl _ w⟩
theorem bM.get {w wr:World} {l:List (Nat×Array Value×TypeId)} (h:bM w wr l) (i:Nat) {g:Nat} {c:Array Value} {t:TypeId} (hi:l[i]? = some (g,c,t)):wr.heap[g]? = some (.cells c t (0,0)):=(h.mem i g c t hi).1
theorem bM.low {w wr:World} {l:List (Nat×Array Value×TypeId)} (h:bM w wr l) (i:Nat) {g:Nat} {c:Array Value} {t:TypeId} (hi:l[i]? = some (g,c,t)):w.heap.size≤g:=(h.mem i g c t hi).2
theorem bM.lt {w wr:World} {l:List (Nat×Array Value×TypeId)} (h:bM w wr l) (i:Nat) {g:Nat} {c:Array Value} {t:TypeId} (hi:l[i]? = some (g,c,t)):g < wr.heap.size:=aO (h.get i hi)
theorem bM.kept {w wr w':World} {l:List (Nat×Array Value×TypeId)} (h:bM w wr l) (b:Below wr.heap.size wr w'):bM w w' l :=
 ⟨fun i _ _ _ hi=>⟨Below.blk b (h.get i hi) (h.lt i hi),h.low i hi⟩,h.inj,h.below.trans (b.mono h.below.size)⟩
theorem bM.drew {w wr:World} {l:List (Nat×Array Value×TypeId)} (h:bM w wr l):bM w wr.drew l:=⟨h.mem,h.inj,⟨h.below.os,h.below.tape,h.below.output,h.below.size,h.below.block⟩⟩
theorem bM.drewN {w wr:World} {l:List (Nat×Array Value×TypeId)} (h:bM w wr l) (k:Nat):bM w (wr.drewN k) l:=⟨h.mem,h.inj,Go.Proofs.YthdgbgleklkaiaaDoor.Below.drewN h.below k⟩
theorem bM.alloc {w wr:World} {l:List (Nat×Array Value×TypeId)} (h:bM w wr l) (c:Array Value) (t:TypeId):bM w (wr.alloc (.cells c t)) (l ++ [(wr.heap.size,c,t)]):=by
 have hb:Below wr.heap.size wr (wr.alloc (.cells c t)):=(Below.refl _ wr).alloc (Nat.le_refl _) _
 have h1:=h.kept hb
 refine ⟨fun i g c' t' hi=>?_,fun i j g c1 t1 c2 t2 hi hj=>?_,h1.below⟩
 ·rcases acG i l.length with hl|hl
  ·rw [acH hl] at hi
   exact h1.mem i g c' t' hi
  ·rw [acI hl] at hi
   rcases acD (i - l.length) with h0|h0
   ·rw [h0] at hi
    simp only [acL,Option.some.injEq,Prod.mk.injEq] at hi
    obtain ⟨rfl,rfl,rfl⟩:=hi
    exact ⟨aG wr _,h.below.size⟩
   ·rw [acJ (by simp;omega)] at hi
    cases hi
 ·rcases acG i l.length with hl|hl
  ·rw [acH hl] at hi
   rcases acG j l.length with hm|hm
   ·rw [acH hm] at hj
    exact h.inj i j _ _ _ _ _ hi hj
   ·rw [acI hm] at hj
    rcases acD (j - l.length) with h0|h0
    ·rw [h0] at hj
     simp only [acL,Option.some.injEq,Prod.mk.injEq] at hj
     have:=h.lt i hi
     omega
    ·rw [acJ (by simp;omega)] at hj
     cases hj
  ·rw [acI hl] at hi
   rcases acD (i - l.length) with h0|h0
   ·rw [h0] at hi
    simp only [acL,Option.some.injEq,Prod.mk.injEq] at hi
    rcases acG j l.length with hm|hm
    ·rw [acH hm] at hj
     have:=h.lt j hj
     omega
    ·rw [acI hm] at hj
     rcases acD (j - l.length) with h2|h2
     ·omega
     ·rw [acJ (by simp;omega)] at hj
      cases hj
   ·rw [acJ (by simp;omega)] at hi
    cases hi
theorem bM.put {w wr w':World} {l:List (Nat×Array Value×TypeId)} (h:bM w wr l) (i:Nat) {g:Nat} {c:Array Value} {t:TypeId} (hi:l[i]? = some (g,c,t)) {d:Array Value} (k:Kept (fun x=>x=g) wr w') (hd:w'.heap[g]? = some (.cells d t (0,0))):bM w w' (l.set i (g,d,t)):=by
 have hil:i < l.length:=(List.getElem?_eq_some_iff.1 hi).1
 refine ⟨fun j g' c' t' hj=>?_,fun j j' g' c1 t1 c2 t2 hj hj'=>?_,h.below.trans (k.toBelow h.below.size (by rintro x rfl;exact h.low i hi))⟩
 ·rw [acO] at hj
  by_cases e:i=j
  ·subst e
   rw [if_pos rfl,if_pos hil] at hj
   simp only [Option.some.injEq,Prod.mk.injEq] at hj
   obtain ⟨rfl,rfl,rfl⟩:=hj
   exact ⟨hd,h.low i hi⟩
  ·rw [if_neg e] at hj
   refine ⟨k.blk (h.get j hj) ?_,h.low j hj⟩
   rintro rfl
   exact e (h.inj i j _ _ _ _ _ hi hj)
 ·have un:∀ (m:Nat) (c0:Array Value) (t0:TypeId),(l.set i (g,d,t))[m]? = some (g',c0,t0)→∃ c0 t0,l[m]? = some (g',c0,t0):=by
   intro m c0 t0 hm
   rw [acO] at hm
   by_cases e:i=m
   ·subst e
    rw [if_pos rfl,if_pos hil] at hm
    simp only [Option.some.injEq,Prod.mk.injEq] at hm
    obtain ⟨rfl, -, -⟩:=hm
    exact ⟨_,_,hi⟩
   ·rw [if_neg e] at hm
    exact ⟨_,_,hm⟩
  obtain ⟨a1,b1,e1⟩:=un j c1 t1 hj
  obtain ⟨a2,b2,e2⟩:=un j' c2 t2 hj'
  exact h.inj j j' _ _ _ _ _ e1 e2
theorem bM.cell {w wr:World} {l:List (Nat×Array Value×TypeId)} (h:bM w wr l) (i:Nat) {g:Nat} {c:Array Value} {t:TypeId} (hi:l[i]? = some (g,c,t)) (o:Nat) (v:Value):bM w (wr.setCell ⟨g,o,none⟩ v) (l.set i (g,c.setIfInBounds o v,t)) :=
 h.put i hi ((Kept.refl (fun x=>x=g) wr).at o v) (bq (h.get i hi) v)
theorem bM.ne {w wr:World} {l:List (Nat×Array Value×TypeId)} (h:bM w wr l) (i j:Nat) {g g':Nat} {c c':Array Value} {t t':TypeId} (hi:l[i]? = some (g,c,t)) (hj:l[j]? = some (g',c',t')) (hij:i≠j):g≠g':=by
 rintro rfl
 exact hij (h.inj i j _ _ _ _ _ hi hj)
theorem bM.cast {w wr:World} {l l':List (Nat×Array Value×TypeId)} (h:bM w wr l) (e:l=l'):bM w wr l':=e▸h
theorem bM.less {w wr:World} {l:List (Nat×Array Value×TypeId)} (h:bM w wr l) (n:Nat):bM w wr (l.take n):=by
 have un:∀ (i:Nat) (x:Nat×Array Value×TypeId),(l.take n)[i]? = some x→l[i]? = some x:=by
  intro i x hx
  rw [List.getElem?_take] at hx
  split at hx
  ·exact hx
  ·cases hx
 exact ⟨fun i g c t hi=>h.mem i g c t (un _ _ hi),fun i j g c t c' t' hi hj=>h.inj i j g c t c' t' (un _ _ hi) (un _ _ hj),h.below⟩
theorem bM.one (w:World) (c:Array Value) (t:TypeId):bM w (w.alloc (.cells c t)) [(w.heap.size,c,t)]:=(bM.nil w).alloc c t
theorem Dm (w:World) (o:Obj):(w.alloc o).heap.size=w.heap.size+1:=by simp
theorem bM.two (w:World) (c d:Array Value) (t u:TypeId):bM w ((w.alloc (.cells c t)).alloc (.cells d u)) [(w.heap.size,c,t),(w.heap.size+1,d,u)]:=by
 have:=(bM.one w c t).alloc d u
 rw [Dm] at this
 exact this
theorem bM.three (w:World) (c d e:Array Value) (t u v:TypeId):bM w (((w.alloc (.cells c t)).alloc (.cells d u)).alloc (.cells e v)) [(w.heap.size,c,t),(w.heap.size+1,d,u),(w.heap.size+1+1,e,v)]:=by
 have:=(bM.two w c d t u).alloc e v
 rw [Dm,Dm] at this
 exact this
theorem bM.four (w:World) (c d e f:Array Value) (t u v x:TypeId):bM w ((((w.alloc (.cells c t)).alloc (.cells d u)).alloc (.cells e v)).alloc (.cells f x)) [(w.heap.size,c,t),(w.heap.size+1,d,u),(w.heap.size+1+1,e,v),(w.heap.size+1+1+1,f,x)]:=by
 have:=(bM.three w c d e t u v).alloc f x
 rw [Dm,Dm,Dm] at this
 exact this
theorem ay (k k':IntKind) {xs ys:List Int} {n:Nat} (hx:xs.length=n) (hy:ys.length=n):(arr k xs).size=(arr k' ys).size:=by rw [aD,aD,hx,hy]
theorem aP {w:World} {g:Nat} {k:IntKind} {xs:List Int} {t:TypeId} (h:w.heap[g]? = some (.cells (arr k xs) t (0,0))) (i:Nat) (hi:i < xs.length):w.cell? ⟨g,i,none⟩=some (.int k (xs.getD i 0)):=dh h i hi
theorem uo (k:IntKind) (a b c:List Int) (n:Nat) (ha:a.length=n):((arr k (a ++ (b ++ c))).toList.drop n).take b.length=b.map (Value.int k):=by
 rw [bN,acM,acM,List.drop_left' (by rw [acN];exact ha),List.take_left' (by rw [acN])]
theorem Ti (k:IntKind) (a b c d:List Int) (n:Nat) (ha:a.length=n) (hb:b.length=n) (hc:c.length=n) :
  ((arr k (a ++ (b ++ (c ++ d)))).toList.drop 0).take a.length=a.map (Value.int k)∧((arr k (a ++ (b ++ (c ++ d)))).toList.drop n).take b.length=b.map (Value.int k) ∧
  ((arr k (a ++ (b ++ (c ++ d)))).toList.drop (n+n)).take c.length=c.map (Value.int k)∧((arr k (a ++ (b ++ (c ++ d)))).toList.drop (n+n+n)).take d.length=d.map (Value.int k):=by
 refine ⟨?_,uo k a b (c ++ d) n ha,?_,?_⟩
 ·have:=uo k [] a (b ++ (c ++ d)) 0 rfl
  simpa using this
 ·have:=uo k (a ++ b) c d (n+n) (by rw [acE,ha,hb])
  simpa using this
 ·have:=uo k (a ++ (b ++ c)) d [] (n+n+n) (by rw [acE,acE,ha,hb,hc];omega)
  simpa using this
section
variable {P:Program} {ops:Array Oper} {rest:List Oper} {o:Oper} {a:Act} {w w0:World} {Q:Exit→Act→World→Prop} {l:List (Nat×Array Value×TypeId)} {t:TypeId} {k:IntKind} {ty:TypeId} {x y:Operand} {g off:Nat} {cs ds:Array Value} {d:TypeDesc} {xs:List Int} {fr:Nat×Nat}
theorem lA (hgd:o.guard=none) (ho:o.op = .alloc t) (hz:(zeroValue t).run P w = .ok (.agg cs) w) (HB:RowKit.Hid (bM w0 w l)) (h:∀ (g:Nat) (w':World),RowKit.Hid (bM w0 w' (l ++ [(g,cs,t)]))→wpList P ops Q rest (a.put o.dst (.pointer (some ⟨g,0,none⟩))) w'):wpList P ops Q (o :: rest) a w :=
 aj hgd t ho cs hz (h _ _ (acF (HB.out.alloc cs t)))
theorem lS (hgd:o.guard=none) (ho:o.op = .store ty x y) (HB:RowKit.Hid (bM w0 w l)) (i:Nat) (hl:l[i]? = some (g,cs,t)) (hx:a.eval x = .pointer (some ⟨g,0,none⟩)) (hy:a.eval y = .agg ds) (hs:ds.size=cs.size) (hi:(P.info? ty).map (·.size)=some ds.size) (h1:ds.all (·.oneCell')=true)
  (h:∀ w',RowKit.Hid (bM w0 w' (l.set i (g,ds,t)))→wpList P ops Q rest (a.put o.dst undef) w'):wpList P ops Q (o :: rest) a w :=
 ah hgd ty x y ho g cs ds t (HB.out.get i hl) hx hy hs hi h1 (fun w' h2 h3 _=>h w' (acF (HB.out.put i hl h3 h2)))
theorem lL (hgd:o.guard=none) (ho:o.op = .load ty x) (hb:w.heap[g]? = some (.cells cs t fr)) (hx:a.eval x = .pointer (some ⟨g,off,none⟩)) (hp:(cs.toList.drop off).take xs.length=xs.map (Value.int k)) (hu:P.underlying ty=some d) (hd:d.isRow=true) (hi:(P.info? ty).map (·.size)=some xs.length)
  (h:wpList P ops Q rest (a.put o.dst (.agg (arr k xs))) w):wpList P ops Q (o :: rest) a w:=ak hgd ty x ho g off cs t fr d hb hx k xs hp hu hd hi h
end
section
variable {P:Program} {f:FuncId} {args:Array Value} {w w0:World} {Q:Ending→World→Prop} {l:List (Nat×Array Value×TypeId)}
theorem lC {e0:Ending} (hc:Calls P f args w fun e w'=>e=e0∧Below w.heap.size w w') (HB:RowKit.Hid (bM w0 w l)) (h:∀ w',RowKit.Hid (bM w0 w' l)→Q e0 w'):Calls P f args w Q:=hc.mono (by rintro e w' ⟨rfl,hb⟩;exact h _ (acF (HB.out.kept hb)))
theorem lZ {F:List Int→Ending} {R:List Int→Prop} (hc:Calls P f args w fun e w'=>∃ zs,e=F zs∧R zs∧Below w.heap.size w w') (HB:RowKit.Hid (bM w0 w l)) (h:∀ zs w',RowKit.Hid (R zs)→RowKit.Hid (bM w0 w' l)→Q (F zs) w'):Calls P f args w Q:=hc.mono (by rintro e w' ⟨zs,rfl,hr,hb⟩;exact h _ _ (acF hr) (acF (HB.out.kept hb)))
end
end Go.Proofs.YthdgbgleklkaiaaDoor
namespace Go.Proofs.YthdgbgleklkaiaaDoor
open Go.RowKit
structure oq (w:World) (sa:Option Addr) (n:Nat) (L:List (List Int)):Prop where
 len:L.length=n
 cell:∀ i,i < n→∃ a si ci,sa=some a∧w.cell? (a.add i)=some (.slice si (L.getD i []).length ci)∧(L.getD i []).length≤ci∧Src w si (L.getD i []).length (L.getD i [])
theorem oq.below {w w':World} {sa:Option Addr} {n:Nat} {L:List (List Int)} (h:oq w sa n L) (k:Below w.heap.size w w'):oq w' sa n L:=by
 refine ⟨h.len,fun i hi=>?_⟩
 obtain ⟨a,si,ci,h1,h2,h3,h4⟩:=h.cell i hi
 exact ⟨a,si,ci,h1,(k.cell (World.block_lt_of_cell? w _ h2)).trans h2,h3,h4.below k⟩
def bytes (xs:List Int):Prop:=∀ x∈xs,0≤x∧x≤255
theorem bytes_at {xs:List Int} (h:bytes xs) (i:Nat):0≤xs.getD i 0∧xs.getD i 0≤255:=by
 simp only [acK]
 cases e:xs[i]? with
 | none=>simp
 | some y=>simpa using h y (List.mem_of_getElem? e)
theorem gD {α:Type} (xs:List α) (i:Nat) (d:α) (h:i < xs.length):xs.take (i+1)=xs.take i ++ [xs.getD i d]:=by
 rw [List.take_succ_eq_append_getElem h]
 simp [acK,h]
theorem vL (L:List (List Int)) (i:Nat) (h:i < L.length):(L.take (i+1)).flatten=(L.take i).flatten ++ L.getD i []:=by
 rw [gD L i [] h,acP]
 simp
theorem Qp (L:List (List Int)) (i:Nat) (h:i < L.length):(L.take i).flatten.length+(L.getD i []).length≤L.flatten.length:=by
 have e:=congrArg List.length (vL L i h)
 rw [acE] at e
 rw [← e]
 have e2:L.flatten=(L.take (i+1)).flatten ++ (L.drop (i+1)).flatten:=by rw [← acP,List.take_append_drop]
 rw [e2,acE]
 omega
end Go.Proofs.YthdgbgleklkaiaaDoor
namespace Go.Proofs.YthdgbgleklkaiaaDoor
open Go.RowKit
def gY (s:ByteArray):List Int:=s.data.toList.map fun b=>(b.toNat:Int)
theorem zL (s:ByteArray):(gY s).length=s.size:=by rw [gY,acN,Array.length_toList];rfl
theorem FN (s:ByteArray):∀ x∈gY s,0≤x∧x≤255:=by
 intro x hx
 simp only [gY,List.mem_map] at hx
 obtain ⟨b,_,rfl⟩:=hx
 have:=b.toNat_lt
 omega
theorem Ho (s:ByteArray):Lib.strCells s=(gY s).map (Value.int .u8):=by simp [Lib.strCells,gY]
theorem EL {w:World} {B:Nat} {v:Value} {xs:List Int} {s:ByteArray} {u ty:TypeId} (hu : Tryd.prog.underlying u=some .string) (hown:aU w B v xs) (hlen:xs.length+s.size≤140737488355328) (hbase:B≤w.heap.size) :
  ∃ v' w',(Builtin.append_ #[24, u] ty #[v, .string s]).run Tryd.prog w = .ok v' w'∧aU w' B v' (xs ++ gY s)∧w.grownBy w' v.ownBlock:=by
 obtain ⟨i0,hi,hz0,hz1,hz2⟩:=info_parts yH
 obtain ⟨v',w',hr,h1,h2, -⟩:=Lib.run_append_own_string (P := Tryd.prog) w B 24 u ty 5 i0 Tryd.underlying24 hu hi hz0 hz1 hz2 v xs.length (xs.map (Value.int .u8)) hown s (by simp only [maxLen];omega) hlen hbase
 refine ⟨v',w',hr,?_,h2⟩
 rw [Ho,← acM] at h1
 rwa [show xs.length+s.size=(xs ++ gY s).length by rw [acE,zL]] at h1
theorem G6 {w:World} {o:Oper} {a:Act} {K:Act→World→Prop} {Q:Exit→Act→World→Prop} (s x:Operand) (u:TypeId) (hu : Tryd.prog.underlying u=some .string)
  (ho:o.op = .call { callee := .builtin .append,args := #[s,x],argTypes := #[24, u] })
  (B:Nat) (v:Value) (xs:List Int) (t:ByteArray) (hs:a.eval s=v) (hx:a.eval x = .string t) (hown:aU w B v xs)
  (hlen:xs.length+t.size≤140737488355328) (hbase:B≤w.heap.size)
  (h:∀ v' w',aU w' B v' (xs ++ gY t)→w.grownBy w' v.ownBlock→K (a.put o.dst v') w'):o.wp Tryd.prog a w K Q:=by
 obtain ⟨v',w',hr,h2,h3⟩:=EL (ty:=o.type) hu hown hlen hbase
 unfold Oper.wp execOp
 simp only [ho,resolve,invoke,builtin,Sem.run_bind,Sem.run_pure,Result.andThen_ok,List.map_toArray,List.map_cons,List.map_nil,hs,hx,hr]
 exact h v' w' h2 h3
theorem CG {w:World} {ops:Array Oper} {o:Oper} {a:Act} {K:Act→World→Prop} {Q:Exit→Act→World→Prop} {E:Prop} (hgd:o.guard=none) (s x:Operand) (u:TypeId) (hu : Tryd.prog.underlying u=some .string)
  (ho:o.op = .call { callee := .builtin .append,args := #[s,x],argTypes := #[24, u] })
  (B:Nat) (v:Value) (xs:List Int) (t:ByteArray) (hs:a.eval s=v) (hx:a.eval x = .string t) (hown:aU w B v xs)
  (hlen:xs.length+t.size≤140737488355328) (hbase:B≤w.heap.size)
  (h:∀ v' w',aU w' B v' (xs ++ gY t)→w.grownBy w' v.ownBlock→K (a.put o.dst v') w') :
  if Region.wanted o (yielded ops a.tmps)=true then Oper.wp Tryd.prog o a w K Q else E:=by
 have hw:Region.wanted o (yielded ops a.tmps)=true:=by simp [Region.wanted,hgd]
 rw [if_pos hw]
 exact G6 s x u hu ho B v xs t hs hx hown hlen hbase h
section
variable {P:Program}
theorem xR {ops:Array Oper} {o:Oper} {a:Act} {w:World} {K:Act→World→Prop} {Q:Exit→Act→World→Prop} {E:Prop} (hgd:o.guard=none) (ty:TypeId) (x y:Operand) (ho:o.op = .store ty x y)
  (g off:Nat) (cs ds:Array Value) (t:TypeId) (hb:w.heap[g]? = some (.cells cs t (0,0))) (hx:a.eval x = .pointer (some ⟨g,off,none⟩)) (hy:a.eval y = .agg ds)
  (hs:off+ds.size≤cs.size) (hi:(P.info? ty).map (·.size)=some ds.size) (h1:ds.all (·.oneCell')=true)
  (h:∀ w',w'.heap[g]? = some (.cells (cs.toList.take off ++ ds.toList ++ cs.toList.drop (off+ds.size)).toArray t (0,0))→Kept (fun i=>i=g) w w'→w'.heap.size=w.heap.size→K (a.put o.dst undef) w') :
  if Region.wanted o (yielded ops a.tmps)=true then Oper.wp P o a w K Q else E:=by
 have hw:Region.wanted o (yielded ops a.tmps)=true:=by simp [Region.wanted,hgd]
 rw [if_pos hw]
 refine wp_store_mid ty x y ho g off ds hx hy (fun j hj=>?_) hi h1 (h _ ?_ ?_ ?_)
 ·rw [aF hb]
  exact ⟨by rw [Array.getElem?_eq_getElem (by omega)];rfl,aC hb _⟩
 ·rw [kT _ _ _ _ _ _ _ hb (by simpa using hs)]
  simp
 ·exact jO g _ _ _ (Kept.refl _ _) (.inl rfl)
 ·have:∀ (vs:List Value) (o:Nat) (w:World),(w.setCells g o vs).heap.size=w.heap.size:=by
   intro vs
   induction vs with
   | nil=>intro o w;rfl
   | cons v vs ih=>intro o w;rw [World.setCells,ih];simp [World.setCell]
  exact this _ _ _
end
end Go.Proofs.YthdgbgleklkaiaaDoor
namespace Go.Proofs.YthdgbgleklkaiaaDoor
open Go.RowKit Go.ChangeShapes Go.WideShapes
def Jw (k:IntKind) (w:World) (a:Option Addr) (len cap:Nat) (zs:List Int):Prop :=
 (a=none∧len=0∧cap=0∧zs=[]) ∨
 ∃ x,a=some x∧len≤cap∧cap≤maxLen∧zs.length=cap∧(∀ i,i < zs.length→w.cell? (x.add i)=some (.int k (zs.getD i 0)))∧∀ n∈zs,(Lit.int k n).wf=true
section
variable {H:Type} {enc:TypeId×Value→H} {P:Program} {w:World} {base:Nat} {spare:Nat→Bool} {held:Bool}
theorem AZ {k:IntKind}:∀ (n:Nat) (cs:List Value),cs.length=n→(∀ i,i < n→∃ z,(cs.drop i).take 1=[.int k z]∧(Lit.int k z).wf=true)→∃ zs:List Int,cs=zs.map (Value.int k)∧zs.length=n∧∀ z∈zs,(Lit.int k z).wf=true
 | 0,cs,hl,_=>⟨[],by simpa using acQ hl,rfl,by simp⟩
 | n+1,cs,hl,h=>by
  cases cs with
  | nil=>simp at hl
  | cons c cs =>
   obtain ⟨z,h1,h2⟩:=h 0 (by omega)
   simp at h1
   obtain ⟨zs,e,l,m⟩:=AZ n cs (by simpa using hl) (fun i hi=>by simpa using h (i+1) (by omega))
   refine ⟨z :: zs,by simp [h1,e],by simp [l],?_⟩
   intro y hy
   rcases List.mem_cons.1 hy with rfl|hy
   ·exact h2
   ·exact m y hy
theorem wf_u8 {n:Int} (h:(Lit.int .u8 n).wf=true):0≤n∧n≤255:=bounds_u8 h
theorem wf_i64 {n:Int} (h:(Lit.int .i64 n).wf=true) : -9223372036854775808≤n∧n≤9223372036854775807:=bounds_i64 h
end
end Go.Proofs.YthdgbgleklkaiaaDoor
namespace Go.Proofs.YthdgbgleklkaiaaDoor
open Go.RowKit
theorem lu {w:World} {sa:Option Addr} {n c:Nat} {xs:List Int} (h:Src w sa n xs):(convert 24 9 (.slice sa n c)).run Tryd.prog w = .ok (.string (strOfNums xs)) w:=by
 cases sa with
 | none =>
  have h0:n=0:=by
   rcases acD n with h0|h0
   ·exact h0
   ·obtain ⟨_,he,_⟩:=h.cell 0 h0
    cases he
  have hx:xs=[]:=acQ (h.len.trans h0)
  subst hx
  exact run_convert_bytes_nil w 24 5 Tryd.underlying24 Tryd.underlying5 n c 9 Tryd.underlying9
 | some a =>
  have hl:(loadCells a n).run Tryd.prog w = .ok (xs.map (Value.int .u8)).toArray w:=by
   have:=run_loadCells_list (P := Tryd.prog) w a (xs.map (Value.int .u8)) (jk h a rfl)
   simpa [h.len] using this
  rw [run_convert_bytes_string w 24 9 5 _ n c Tryd.underlying24 Tryd.underlying5 Tryd.underlying9, run_bytesToString w _ n c xs hl,foldl_push_bytes]
  simp [strOfNums,ByteArray.empty,ByteArray.emptyWithCapacity]
  rfl
theorem Src.take {w:World} {sa:Option Addr} {n:Nat} {xs:List Int} (h:Src w sa n xs) (m:Nat) (hm:m≤n):Src w sa m (xs.take m):=by
 refine ⟨by simp;have:=h.len;omega,fun i hi=>?_⟩
 obtain ⟨a,e,hc⟩:=h.cell i (by omega)
 refine ⟨a,e,?_⟩
 rw [hc]
 simp [acK,hi]
theorem Src.part {w:World} {ad:Addr} {n:Nat} {xs:List Int} (h:Src w (some ad) n xs) (o m:Nat) (hm:o+m≤n):Src w (some (ad.add o)) m ((xs.drop o).take m):=by
 refine ⟨by simp;have:=h.len;omega,fun i hi=>⟨_,rfl,?_⟩⟩
 obtain ⟨a,e,hc⟩:=h.cell (o+i) (by omega)
 cases e
 have:(ad.add o).add i=ad.add (o+i):=by
  obtain ⟨b,off,s⟩:=ad
  unfold Addr.add
  by_cases ho:o=0
  ·subst ho;simp
  ·by_cases hj:i=0
   ·subst hj;simp
   ·simp [ho,hj,Nat.add_assoc]
 rw [this,hc]
 simp [acK,hi,List.getElem?_drop]
end Go.Proofs.YthdgbgleklkaiaaDoor
namespace Go.Proofs.YthdgbgleklkaiaaDoor
open Go.RowKit
theorem EB {P:Program} {a:Act} {w:World} {Q:Exit→Act→World→Prop} {c rest:Code} (l:Nat) (hf:findLabel c l=some rest)
  (h:c.wp P (Exit.jump l (fun a w=>rest.wp P (Exit.noGoto Q) a w) Q) a w):(Code.scope c).wp P Q a w:=by
 refine wp_scope_jumps l (fun a w=>rest.wp P (Exit.noGoto Q) a w) (fun _ _=>0) hf h (fun a w hJ=>Code.wp_mono (fun e a w q=>?_) hJ)
 cases e <;> first|exact q|exact q.elim
end Go.Proofs.YthdgbgleklkaiaaDoor
namespace Go.Proofs.YthdgbgleklkaiaaDoor
open Go.RowKit Go.ChangeShapes Go.WideShapes
theorem Jw.below {k:IntKind} {w w':World} {a:Option Addr} {len cap:Nat} {zs:List Int} (h:Jw k w a len cap zs) (hb:Below w.heap.size w w'):Jw k w' a len cap zs:=by
 rcases h with h0|⟨x,h1,h2,h3,h4,h5,h6⟩
 ·exact .inl h0
 ·exact .inr ⟨x,h1,h2,h3,h4,fun i hi=>dI hb (h5 i hi),h6⟩
theorem Jw.lt {k:IntKind} {w:World} {a:Option Addr} {len cap:Nat} {zs:List Int} (h:Jw k w a len cap zs) (x:Addr) (hx:a=some x):len=0∨x.block < w.heap.size:=by
 rcases h with ⟨rfl,_⟩|⟨y,rfl,h2,h3,h4,h5,h6⟩
 ·cases hx
 ·cases hx
  rcases acD len with h0|h0
  ·exact .inl h0
  ·exact .inr (World.block_lt_of_cell? _ _ (h5 0 (by omega)))
section
variable {H:Type} {enc:TypeId×Value→H} {P:Program} {w:World} {base:Nat} {spare:Nat→Bool} {held:Bool} {fuel:Nat} {t e:TypeId} {cs l:List Value} {x y:DataW H×List MemPlace}
theorem flds {fs:Array Field} (ht:P.underlying t=some (.struct fs)) (h:DataW.trod enc P w base spare held fuel t cs=some x) :
  cs.length=P.cellsOf t∧∃ n,∀ (i ft off sz:Nat),(fs[i]?).map (fun f=>(f.type,f.offset))=some (ft,off)→P.cellsOf ft=sz→∃ y,DataW.trod enc P w base spare held n ft ((cs.drop off).take sz)=some y:=by
 obtain ⟨xs,n,_,_,hl,hx,hf⟩:=DataW.trod_struct ht h
 refine ⟨hl,n,fun i ft off sz hi hs=>?_⟩
 cases hfi:fs[i]? with
 | none=>rw [hfi] at hi;cases hi
 | some f =>
  rw [hfi] at hi
  simp only [Option.map_some,Option.some.injEq,Prod.mk.injEq] at hi
  obtain ⟨rfl,rfl⟩:=hi
  subst hs
  have hlt:i < xs.length:=by rw [hx];exact (Array.getElem?_eq_some_iff.1 hfi).1
  exact ⟨_,(hf i f hfi).trans (acR hlt)⟩
theorem FC {k:IntKind} (hu:P.underlying t=some (.int k)) (h:DataW.trod enc P w base spare held fuel t l=some y):∃ z,l=[.int k z]∧(Lit.int k z).wf=true:=by
 obtain ⟨z,h1,_,h2⟩:=DataW.trod_int hu h
 exact ⟨z,h1,h2⟩
theorem aaS {k:IntKind} (hu:P.underlying t=some (.slice e)) (he:P.underlying e=some (.int k)) (hc:P.cellsOf e=1) (h:DataW.trod enc P w base (fun _=>true) held fuel t l=some y) :
  ∃ a len cap zs,l=[.slice a len cap]∧Jw k w a len cap zs:=by
 rcases open_ints hu he hc h with ⟨hcs,_⟩|⟨a,n,c,zs,hcs,_,hl,hm,hz,_,hcell,hwz⟩
 ·exact ⟨none,0,0,[],hcs, .inl ⟨rfl,rfl,rfl,rfl⟩⟩
 ·exact ⟨some a,n,c,zs,hcs, .inr ⟨a,rfl,hl,hm,by simpa using hz,hcell,hwz⟩⟩
theorem yO {k:IntKind} {n:Nat} (hu:P.underlying t=some (.array n e)) (he:P.underlying e=some (.int k)) (hc:P.cellsOf e=1) (hn:P.cellsOf t=n) (h:DataW.trod enc P w base spare held fuel t l=some y) :
  ∃ zs:List Int,l=zs.map (Value.int k)∧zs.length=n∧∀ z∈zs,(Lit.int k z).wf=true:=by
 obtain ⟨xs,m,_,_,hl,hx,hi⟩:=DataW.trod_array hu h
 rw [hc] at hi
 exact AZ (k:=k) n l (by rw [← hn];exact hl) (fun i h=>by
  have:=hi i h
  rw [acR (show i < xs.length by omega)] at this
  obtain ⟨z,h1,_,h2⟩:=DataW.trod_int he this
  exact ⟨z,by simpa using h1,h2⟩)
end
end Go.Proofs.YthdgbgleklkaiaaDoor
