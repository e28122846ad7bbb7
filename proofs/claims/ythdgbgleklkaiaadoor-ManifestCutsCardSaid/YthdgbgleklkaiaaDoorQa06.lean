/- One step of a region that draws its order: A list of blocks of the call's own, told whole. shb: shb.schedule: shb.turn: The hash of shb, block by block. sha: sha.schedule. Condition: as each theorem says. -/
import Derived.BigRegion
import Derived.Deep.DeepCutAuto
import Derived.Deep.LoopGhost
import Derived.Deep.RegionHeld3
import Derived.ScopeJumps
import Derived.StillTailTactics
import Derived.Test.YthdgbgleklkaiaaDoorQa01
import Derived.Test.YthdgbgleklkaiaaDoorQa04
set_option linter.unusedSimpArgs false
set_option linter.unusedVariables false
set_option maxRecDepth 100000
set_option maxHeartbeats 16000000
namespace Go.Proofs.YthdgbgleklkaiaaDoor
open Go.RowKit
section
variable {P:Program}
theorem bg {ops:Array Oper} {o:Oper} {a:Act} {w:World} {K:Act→World→Prop} {Q:Exit→Act→World→Prop} {E:Prop} (hgd:o.guard=none) (t:TypeId) (ho:o.op = .alloc t)
  (z:Array Value) (hz:(zeroValue t).run P w = .ok (.agg z) w) (h:K (a.put o.dst (.pointer (some ⟨w.heap.size,0,none⟩))) (w.alloc (.cells z t))) :
  if Region.wanted o (yielded ops a.tmps)=true then Oper.wp P o a w K Q else E:=by
 have hw:Region.wanted o (yielded ops a.tmps)=true:=by simp [Region.wanted,hgd]
 rw [if_pos hw]
 unfold Oper.wp execOp
 simp only [ho,Instr.alloc,Sem.run_bind,hz,Result.andThen_ok]
 exact h
theorem aD {ops:Array Oper} {o:Oper} {a:Act} {w:World} {K:Act→World→Prop} {Q:Exit→Act→World→Prop} {E:Prop} (hgd:o.guard=none) (ty:TypeId) (x y:Operand) (ho:o.op = .store ty x y)
  (g:Nat) (cs ds:Array Value) (t:TypeId) (hb:w.heap[g]? = some (.cells cs t (0,0))) (hx:a.eval x = .pointer (some ⟨g,0,none⟩)) (hy:a.eval y = .agg ds)
  (hs:ds.size=cs.size) (hi:(P.info? ty).map (·.size)=some ds.size) (h1:ds.all (·.oneCell')=true)
  (h:∀ w',w'.heap[g]? = some (.cells ds t (0,0))→Kept (fun i=>i=g) w w'→w'.heap.size=w.heap.size→K (a.put o.dst undef) w') :
  if Region.wanted o (yielded ops a.tmps)=true then Oper.wp P o a w K Q else E:=by
 have hw:Region.wanted o (yielded ops a.tmps)=true:=by simp [Region.wanted,hgd]
 rw [if_pos hw]
 refine wp_store_mid ty x y ho g 0 ds hx hy (fun j hj=>?_) hi h1 (h _ ?_ ?_ ?_)
 ·rw [aG hb]
  exact ⟨by rw [Array.getElem?_eq_getElem (by omega)];rfl,aC hb _⟩
 ·rw [kI _ _ _ _ _ _ _ hb (by simp [hs])]
  have e:cs.toList.drop (0+ds.toList.length)=[]:=List.drop_eq_nil_of_le (by simp [hs])
  rw [e]
  simp
 ·exact jG g _ _ _ (Kept.refl _ _) (.inl rfl)
 ·have:∀ (vs:List Value) (o:Nat) (w:World),(w.setCells g o vs).heap.size=w.heap.size:=by
   intro vs
   induction vs with
   | nil=>intro o w;rfl
   | cons v vs ih=>intro o w;rw [World.setCells,ih];simp [World.setCell]
  exact this _ _ _
theorem eO {ops:Array Oper} {o:Oper} {a:Act} {w:World} {K:Act→World→Prop} {Q:Exit→Act→World→Prop} {E:Prop} (hgd:o.guard=none) (ty:TypeId) (x:Operand) (ho:o.op = .load ty x)
  (g off:Nat) (cs:Array Value) (t:TypeId) (fr:Nat×Nat) (d:TypeDesc) (hb:w.heap[g]? = some (.cells cs t fr)) (hx:a.eval x = .pointer (some ⟨g,off,none⟩)) (k:IntKind) (xs:List Int)
  (hp:(cs.toList.drop off).take xs.length=xs.map (Value.int k)) (hu:P.underlying ty=some d) (hd:d.isRow=true) (hi:(P.info? ty).map (·.size)=some xs.length)
  (h:K (a.put o.dst (.agg (arr k xs))) w):if Region.wanted o (yielded ops a.tmps)=true then Oper.wp P o a w K Q else E:=by
 have hw:Region.wanted o (yielded ops a.tmps)=true:=by simp [Region.wanted,hgd]
 rw [if_pos hw]
 exact wp_load_mid ty x ho g off hx (xs.map (Value.int k)) d (aM hb off _ (by rw [List.length_map];exact hp)) hu hd (by rw [List.length_map];exact hi) h
end
end Go.Proofs.YthdgbgleklkaiaaDoor
namespace Go.Proofs.YthdgbgleklkaiaaDoor
open Go.RowKit
structure bM (w wr:World) (l:List (Nat×Array Value×TypeId)):Prop where
 mem:∀ (i g:Nat) (c:Array Value) (t:TypeId),l[i]? = some (g,c,t)→wr.heap[g]? = some (.cells c t (0,0))∧w.heap.size≤g
 inj:∀ (i j:Nat) (g:Nat) (c:Array Value) (t:TypeId) (c':Array Value) (t':TypeId),l[i]? = some (g,c,t)→l[j]? = some (g,c',t')→i=j
 below:Below w.heap.size w wr
theorem bM.nil (w:World):bM w w []:=⟨fun _ _ _ _ h=>by simp at h,fun _ _ _ _ _ _ _ h=>by simp at h,Below.refl _ w⟩
theorem bM.get {w wr:World} {l:List (Nat×Array Value×TypeId)} (h:bM w wr l) (i:Nat) {g:Nat} {c:Array Value} {t:TypeId} (hi:l[i]? = some (g,c,t)):wr.heap[g]? = some (.cells c t (0,0)):=(h.mem i g c t hi).1
theorem bM.low {w wr:World} {l:List (Nat×Array Value×TypeId)} (h:bM w wr l) (i:Nat) {g:Nat} {c:Array Value} {t:TypeId} (hi:l[i]? = some (g,c,t)):w.heap.size≤g:=(h.mem i g c t hi).2
theorem bM.lt {w wr:World} {l:List (Nat×Array Value×TypeId)} (h:bM w wr l) (i:Nat) {g:Nat} {c:Array Value} {t:TypeId} (hi:l[i]? = some (g,c,t)):g < wr.heap.size:=aR (h.get i hi)
theorem bM.kept {w wr w':World} {l:List (Nat×Array Value×TypeId)} (h:bM w wr l) (b:Below wr.heap.size wr w'):bM w w' l :=
 ⟨fun i _ _ _ hi=>⟨Below.blk b (h.get i hi) (h.lt i hi),h.low i hi⟩,h.inj,h.below.trans (b.mono h.below.size)⟩
theorem bM.drew {w wr:World} {l:List (Nat×Array Value×TypeId)} (h:bM w wr l):bM w wr.drew l:=⟨h.mem,h.inj,⟨h.below.os,h.below.tape,h.below.output,h.below.size,h.below.block⟩⟩
theorem bM.drewN {w wr:World} {l:List (Nat×Array Value×TypeId)} (h:bM w wr l) (k:Nat):bM w (wr.drewN k) l:=⟨h.mem,h.inj,Go.Proofs.YthdgbgleklkaiaaDoor.Below.drewN h.below k⟩
theorem bM.alloc {w wr:World} {l:List (Nat×Array Value×TypeId)} (h:bM w wr l) (c:Array Value) (t:TypeId):bM w (wr.alloc (.cells c t)) (l ++ [(wr.heap.size,c,t)]):=by
 have hb:Below wr.heap.size wr (wr.alloc (.cells c t)):=(Below.refl _ wr).alloc (Nat.le_refl _) _
 have h1:=h.kept hb
 refine ⟨fun i g c' t' hi=>?_,fun i j g c1 t1 c2 t2 hi hj=>?_,h1.below⟩
 ·rcases Nat.lt_or_ge i l.length with hl|hl
  ·rw [List.getElem?_append_left hl] at hi
   exact h1.mem i g c' t' hi
  ·rw [List.getElem?_append_right hl] at hi
   rcases Nat.eq_zero_or_pos (i - l.length) with h0|h0
   ·rw [h0] at hi
    simp only [List.getElem?_cons_zero,Option.some.injEq,Prod.mk.injEq] at hi
    obtain ⟨rfl,rfl,rfl⟩:=hi
    exact ⟨aL wr _,h.below.size⟩
   ·rw [List.getElem?_eq_none (by simp;omega)] at hi
    cases hi
 ·rcases Nat.lt_or_ge i l.length with hl|hl
  ·rw [List.getElem?_append_left hl] at hi
   rcases Nat.lt_or_ge j l.length with hm|hm
   ·rw [List.getElem?_append_left hm] at hj
    exact h.inj i j _ _ _ _ _ hi hj
   ·rw [List.getElem?_append_right hm] at hj
    rcases Nat.eq_zero_or_pos (j - l.length) with h0|h0
    ·rw [h0] at hj
     simp only [List.getElem?_cons_zero,Option.some.injEq,Prod.mk.injEq] at hj
     have:=h.lt i hi
     omega
    ·rw [List.getElem?_eq_none (by simp;omega)] at hj
     cases hj
  ·rw [List.getElem?_append_right hl] at hi
   rcases Nat.eq_zero_or_pos (i - l.length) with h0|h0
   ·rw [h0] at hi
    simp only [List.getElem?_cons_zero,Option.some.injEq,Prod.mk.injEq] at hi
    rcases Nat.lt_or_ge j l.length with hm|hm
    ·rw [List.getElem?_append_left hm] at hj
     have:=h.lt j hj
     omega
    ·rw [List.getElem?_append_right hm] at hj
     rcases Nat.eq_zero_or_pos (j - l.length) with h2|h2
     ·omega
     ·rw [List.getElem?_eq_none (by simp;omega)] at hj
      cases hj
   ·rw [List.getElem?_eq_none (by simp;omega)] at hi
    cases hi
theorem bM.put {w wr w':World} {l:List (Nat×Array Value×TypeId)} (h:bM w wr l) (i:Nat) {g:Nat} {c:Array Value} {t:TypeId} (hi:l[i]? = some (g,c,t)) {d:Array Value} (k:Kept (fun x=>x=g) wr w') (hd:w'.heap[g]? = some (.cells d t (0,0))):bM w w' (l.set i (g,d,t)):=by
 have hil:i < l.length:=(List.getElem?_eq_some_iff.1 hi).1
 refine ⟨fun j g' c' t' hj=>?_,fun j j' g' c1 t1 c2 t2 hj hj'=>?_,h.below.trans (k.toBelow h.below.size (by rintro x rfl;exact h.low i hi))⟩
 ·rw [List.getElem?_set] at hj
  by_cases e:i=j
  ·subst e
   rw [if_pos rfl,if_pos hil] at hj
   simp only [Option.some.injEq,Prod.mk.injEq] at hj
   obtain ⟨rfl,rfl,rfl⟩:=hj
   exact ⟨hd,h.low i hi⟩
  ·rw [if_neg e] at hj
   refine ⟨k.blk (h.get j hj) ?_,h.low j hj⟩
   rintro rfl
   exact e (h.inj i j _ _ _ _ _ hi hj)
 ·have un:∀ (m:Nat) (c0:Array Value) (t0:TypeId),(l.set i (g,d,t))[m]? = some (g',c0,t0)→∃ c0 t0,l[m]? = some (g',c0,t0):=by
   intro m c0 t0 hm
   rw [List.getElem?_set] at hm
   by_cases e:i=m
   ·subst e
    rw [if_pos rfl,if_pos hil] at hm
    simp only [Option.some.injEq,Prod.mk.injEq] at hm
    obtain ⟨rfl, -, -⟩:=hm
    exact ⟨_,_,hi⟩
   ·rw [if_neg e] at hm
    exact ⟨_,_,hm⟩
  obtain ⟨a1,b1,e1⟩:=un j c1 t1 hj
  obtain ⟨a2,b2,e2⟩:=un j' c2 t2 hj'
  exact h.inj j j' _ _ _ _ _ e1 e2
theorem bM.cell {w wr:World} {l:List (Nat×Array Value×TypeId)} (h:bM w wr l) (i:Nat) {g:Nat} {c:Array Value} {t:TypeId} (hi:l[i]? = some (g,c,t)) (o:Nat) (v:Value):bM w (wr.setCell ⟨g,o,none⟩ v) (l.set i (g,c.setIfInBounds o v,t)) :=
 h.put i hi ((Kept.refl (fun x=>x=g) wr).at o v) (bC (h.get i hi) v)
theorem bM.ne {w wr:World} {l:List (Nat×Array Value×TypeId)} (h:bM w wr l) (i j:Nat) {g g':Nat} {c c':Array Value} {t t':TypeId} (hi:l[i]? = some (g,c,t)) (hj:l[j]? = some (g',c',t')) (hij:i≠j):g≠g':=by
 rintro rfl
 exact hij (h.inj i j _ _ _ _ _ hi hj)
theorem bM.cast {w wr:World} {l l':List (Nat×Array Value×TypeId)} (h:bM w wr l) (e:l=l'):bM w wr l':=e▸h
theorem bM.less {w wr:World} {l:List (Nat×Array Value×TypeId)} (h:bM w wr l) (n:Nat):bM w wr (l.take n):=by
 have un:∀ (i:Nat) (x:Nat×Array Value×TypeId),(l.take n)[i]? = some x→l[i]? = some x:=by
  intro i x hx
  rw [List.getElem?_take] at hx
  split at hx
  ·exact hx
  ·cases hx
 exact ⟨fun i g c t hi=>h.mem i g c t (un _ _ hi),fun i j g c t c' t' hi hj=>h.inj i j g c t c' t' (un _ _ hi) (un _ _ hj),h.below⟩
theorem bM.one (w:World) (c:Array Value) (t:TypeId):bM w (w.alloc (.cells c t)) [(w.heap.size,c,t)]:=(bM.nil w).alloc c t
theorem BZ (w:World) (o:Obj):(w.alloc o).heap.size=w.heap.size+1:=by simp
theorem bM.two (w:World) (c d:Array Value) (t u:TypeId):bM w ((w.alloc (.cells c t)).alloc (.cells d u)) [(w.heap.size,c,t),(w.heap.size+1,d,u)]:=by
 have:=(bM.one w c t).alloc d u
 rw [BZ] at this
 exact this
theorem bM.three (w:World) (c d e:Array Value) (t u v:TypeId):bM w (((w.alloc (.cells c t)).alloc (.cells d u)).alloc (.cells e v)) [(w.heap.size,c,t),(w.heap.size+1,d,u),(w.heap.size+1+1,e,v)]:=by
 have:=(bM.two w c d t u).alloc e v
 rw [BZ,BZ] at this
 exact this
theorem bM.four (w:World) (c d e f:Array Value) (t u v x:TypeId):bM w ((((w.alloc (.cells c t)).alloc (.cells d u)).alloc (.cells e v)).alloc (.cells f x)) [(w.heap.size,c,t),(w.heap.size+1,d,u),(w.heap.size+1+1,e,v),(w.heap.size+1+1+1,f,x)]:=by
 have:=(bM.three w c d e t u v).alloc f x
 rw [BZ,BZ,BZ] at this
 exact this
theorem ay (k k':IntKind) {xs ys:List Int} {n:Nat} (hx:xs.length=n) (hy:ys.length=n):(arr k xs).size=(arr k' ys).size:=by rw [aF,aF,hx,hy]
theorem aN {w:World} {g:Nat} {k:IntKind} {xs:List Int} {t:TypeId} (h:w.heap[g]? = some (.cells (arr k xs) t (0,0))) (i:Nat) (hi:i < xs.length):w.cell? ⟨g,i,none⟩=some (.int k (xs.getD i 0)):=cZ h i hi
theorem tF (k:IntKind) (a b c:List Int) (n:Nat) (ha:a.length=n):((arr k (a ++ (b ++ c))).toList.drop n).take b.length=b.map (Value.int k):=by
 rw [bQ,List.map_append,List.map_append,List.drop_left' (by rw [List.length_map];exact ha),List.take_left' (by rw [List.length_map])]
theorem Rt (k:IntKind) (a b c d:List Int) (n:Nat) (ha:a.length=n) (hb:b.length=n) (hc:c.length=n) :
  ((arr k (a ++ (b ++ (c ++ d)))).toList.drop 0).take a.length=a.map (Value.int k)∧((arr k (a ++ (b ++ (c ++ d)))).toList.drop n).take b.length=b.map (Value.int k) ∧
  ((arr k (a ++ (b ++ (c ++ d)))).toList.drop (n+n)).take c.length=c.map (Value.int k)∧((arr k (a ++ (b ++ (c ++ d)))).toList.drop (n+n+n)).take d.length=d.map (Value.int k):=by
 refine ⟨?_,tF k a b (c ++ d) n ha,?_,?_⟩
 ·have:=tF k [] a (b ++ (c ++ d)) 0 rfl
  simpa using this
 ·have:=tF k (a ++ b) c d (n+n) (by rw [List.length_append,ha,hb])
  simpa using this
 ·have:=tF k (a ++ (b ++ c)) d [] (n+n+n) (by rw [List.length_append,List.length_append,ha,hb,hc];omega)
  simpa using this
end Go.Proofs.YthdgbgleklkaiaaDoor
namespace Go.Proofs.YthdgbgleklkaiaaDoor.Hb
open Go.RowKit
theorem setA (cs:List Value) (i:Nat) (v:Value):cs.toArray.setIfInBounds i v=(cs.set i v).toArray:=by simp
theorem Te (w:World):(zeroValue 133).run Tryd.prog w = .ok (.agg (arr .u64 (List.replicate 80 0))) w:=by kernel_rfl
theorem sW:(Tryd.prog.info? 132).map (·.size)=some 8:=by kernel_rfl
end Go.Proofs.YthdgbgleklkaiaaDoor.Hb
namespace Go.Proofs.YthdgbgleklkaiaaDoor.Hb
open Go.RowKit
theorem aY (k:IntKind) (xs:List Int) (i:Nat) (v:Int):(arr k xs).setIfInBounds i (.int k v)=arr k (xs.set i v):=by
 unfold arr
 rw [setA,List.map_set]
theorem aU {w:World} {g:Nat} {k:IntKind} {xs:List Int} {t:TypeId} {fr:Nat×Nat} (h:w.heap[g]? = some (.cells (arr k xs) t fr)) (i:Nat) (hi:i < xs.length):w.cell? ⟨g,i,none⟩=some (.int k (xs.getD i 0)):=by
 rw [aG h,uw _ _ _ hi]
theorem bK {w:World} {g:Nat} {k:IntKind} {xs:List Int} {t:TypeId} (h:w.heap[g]? = some (.cells (arr k xs) t (0,0))) (i:Nat) (v:Int):(w.setCell ⟨g,i,none⟩ (.int k v)).heap[g]? = some (.cells (arr k (xs.set i v)) t (0,0)):=by
 rw [bC h,aY]
theorem byte_at {b:List Int} (hb:∀ x∈b,0≤x∧x≤255) (j:Nat):0≤b.getD j 0∧b.getD j 0≤255:=by
 simp only [List.getD]
 cases e:b[j]? with
 | none=>simp
 | some y=>simpa using hb y (List.mem_of_getElem? e)
end Go.Proofs.YthdgbgleklkaiaaDoor.Hb
namespace Go.Proofs.YthdgbgleklkaiaaDoor.Hb
open Go.RowKit
theorem Ga (w:World):(zeroValue 132).run Tryd.prog w = .ok (.agg (arr .u64 (List.replicate 8 0))) w:=by kernel_rfl
theorem zo {a0 a1 a2 a3 a4 a5 a6 a7 b0 b1 b2 b3 b4 b5 b6 b7:Int} (h0:a0=b0) (h1:a1=b1) (h2:a2=b2) (h3:a3=b3) (h4:a4=b4) (h5:a5=b5) (h6:a6=b6) (h7:a7=b7) :
  [a0,a1,a2,a3,a4,a5,a6,a7]=[b0,b1,b2,b3,b4,b5,b6,b7]:=by
 subst h0 h1 h2 h3 h4 h5 h6 h7
 rfl
theorem Za (a b:Int):IntKind.u64.wrap (a+b)=add a b:=rfl
theorem lN {P:Program} {ops:Array Oper} {rest:List Oper} {o:Oper} {a:Act} {w:World} {Q:Exit→Act→World→Prop} (hgd:o.guard=none) (ty:TypeId) (x y:Operand) (ho:o.op = .store ty x y)
  (g:Nat) (k:IntKind) (ys:List Int) (t:TypeId) (hb:w.heap[g]? = some (.cells (arr k ys) t (0,0))) (hx:a.eval x = .pointer (some ⟨g,0,none⟩)) (a0 a1 a2 a3 a4 a5 a6 a7:Int)
  (hy:a.eval y = .agg #[Value.int k a0, .int k a1, .int k a2, .int k a3, .int k a4, .int k a5, .int k a6, .int k a7]) (hl:ys.length=8) (hi:(P.info? ty).map (·.size)=some 8)
  (h:∀ w',w'.heap[g]? = some (.cells (arr k [a0,a1,a2,a3,a4,a5,a6,a7]) t (0,0))→Kept (fun i=>i=g) w w'→w'.heap.size=w.heap.size→wpList P ops Q rest (a.put o.dst undef) w') :
  wpList P ops Q (o :: rest) a w:=by
 refine ah hgd ty x y ho g (arr k ys) (arr k [a0,a1,a2,a3,a4,a5,a6,a7]) t hb hx hy ?_ ?_ (av _ _) h
 ·rw [aF,aF,hl];rfl
 ·rw [aF];exact hi
end Go.Proofs.YthdgbgleklkaiaaDoor.Hb
namespace Go.Proofs.YthdgbgleklkaiaaDoor.Hb
open Go.RowKit
theorem S.take_len (s:S) (x:Int):(s.take x).h.length=s.h.length∧(s.take x).b.length=s.b.length:=by
 unfold S.take
 split
 ·exact ⟨pJ _ _,by simp⟩
 ·exact ⟨rfl,by simp⟩
theorem S.nP:∀ (xs:List Int) (s:S),(s.all xs).h.length=s.h.length∧(s.all xs).b.length=s.b.length
 | [],_=>⟨rfl,rfl⟩
 | x :: xs,s=>by
  have:=S.nP xs (s.take x)
  have h:=S.take_len s x
  exact ⟨this.1.trans h.1,this.2.trans h.2⟩
theorem set_mid (a b:List Int) (i:Nat) (x:Int) (ha:a.length=i) (hb:i < b.length):(a ++ b.drop i).set i x=a ++ [x] ++ b.drop (i+1):=by
 rw [List.set_append_right _ _ (by omega),ha,Nat.sub_self,List.drop_eq_getElem_cons hb,List.set_cons_zero]
 simp
theorem S.EO (s:S) (bl:List Int) (hn:s.n=0) (hb:s.b.length=128) (hl:bl.length=128):∀ i,i < 128→s.all (bl.take i)=⟨s.h,bl.take i ++ s.b.drop i,i⟩:=by
 intro i
 induction i with
 | zero =>
  intro _
  obtain ⟨h,b,n⟩:=s
  simp only at hn
  subst hn
  simp [S.all]
 | succ i ih =>
  intro hi
  have e:bl.take (i+1)=bl.take i ++ [bl.getD i 0]:=by
   rw [List.take_succ_eq_append_getElem (by omega)]
   simp [List.getD,show i < bl.length by omega]
  rw [e,S.pU,ih (by omega),S.take,if_neg (by show ¬ i+1=_;omega)]
  simp only
  rw [set_mid _ _ _ _ (by simp;omega) (by omega)]
theorem S.vF (s:S) (bl:List Int) (hn:s.n=0) (hb:s.b.length=128) (hl:bl.length=128):s.all bl=⟨comp s.h bl,bl,0⟩:=by
 have e:bl=bl.take (128 - 1) ++ [bl.getD (128 - 1) 0]:=by
  have:bl.take (128 - 1+1)=bl.take (128 - 1) ++ [bl.getD (128 - 1) 0]:=by
   rw [List.take_succ_eq_append_getElem (by omega)]
   simp [List.getD,hl]
  rw [← this,List.take_of_length_le (by omega)]
 have hd:(bl.take (128 - 1) ++ s.b.drop (128 - 1)).set (128 - 1) (bl.getD (128 - 1) 0)=bl:=by
  rw [set_mid _ _ _ _ (by simp;omega) (by omega),List.drop_eq_nil_of_le (by omega),List.append_nil,← e]
 have h1:s.all bl=(s.all (bl.take (128 - 1))).take (bl.getD (128 - 1) 0):=by rw [← S.pU,← e]
 rw [h1,S.EO s bl hn hb hl _ (by omega),S.take,if_pos rfl]
 simp only [hd]
def eF (pm:List Int) (q:Nat):List Int:=(pm.drop (128 * q)).take 128
def ji (pm:List Int) (q:Nat):List Int:=(S.new.all (pm.take (128 * q))).h
theorem Kc (pm:List Int) (q:Nat):(ji pm q).length=8:=(S.nP _ _).1
theorem Et (pm:List Int):ji pm 0=H0:=by simp [ji,S.all,S.new]
theorem Eu (pm:List Int) (q:Nat) (h:128 * (q+1)≤pm.length):ji pm (q+1)=comp (ji pm q) (eF pm q):=by
 unfold ji eF
 have e:pm.take (128 * (q+1))=pm.take (128 * q) ++ (pm.drop (128 * q)).take 128:=by rw [Nat.mul_succ,List.take_add]
 rw [e,S.all_append,S.vF _ _ ?_ ?_ ?_]
 ·rw [S.Iw _ _ S.Ok.new.n,List.length_take,Nat.min_eq_left (by omega)]
  show (0+128 * q) % 128=0
  omega
 ·rw [(S.nP _ _).2];simp [S.new]
 ·rw [List.length_take,List.length_drop];omega
theorem Ke (pm:List Int) (q:Nat) (h:pm.length=128 * q):(S.new.all pm).h=ji pm q:=by
 unfold ji
 rw [List.take_of_length_le (by omega)]
theorem EL (pm:List Int) (q j:Nat) (hj:j < 128):(eF pm q).getD j 0=pm.getD (128 * q+j) 0:=by
 unfold eF
 simp only [List.getD,List.getElem?_take,hj,if_true,List.getElem?_drop]
theorem yE (n:Nat):∃ q,n+(tail n).length=128 * q:=by
 refine ⟨(n+(tail n).length) / 128,?_⟩
 have:(tail n).length=1+(2 * 128 - 16 - 1 - n % 128) % 128+16:=by simp [tail];omega
 rw [this]
 omega
theorem qR (n:Nat):∀ x∈tail n,0≤x∧x≤255:=by
 intro x hx
 simp only [tail,List.mem_append,List.mem_cons,List.mem_replicate,List.mem_map,List.mem_range] at hx
 rcases hx with ((rfl|⟨_,rfl⟩)|⟨_,rfl⟩)|⟨i,_,rfl⟩
 all_goals omega
end Go.Proofs.YthdgbgleklkaiaaDoor.Hb
namespace Go.Proofs.YthdgbgleklkaiaaDoor.Ha
open Go.RowKit
def stC (h b:List Int) (n l:Int):Array Value:=(h.map (Value.int .u32) ++ (K.map (Value.int .u32) ++ (b.map (Value.int .u8) ++ [Value.int .i64 n,Value.int .u64 l]))).toArray
structure pV (w:World) (p:Nat) (h b:List Int) (n l:Int):Prop where
 blk:w.heap[p]? = some (.cells (stC h b n l) 88 (0,0))
 hl:h.length=8
 bl:b.length=64
theorem pV.kept {T:Nat→Prop} {w w':World} {p:Nat} {h b:List Int} {n l:Int} (s:pV w p h b n l) (k:Kept T w w') (hp:¬ T p):pV w' p h b n l:=⟨k.blk s.blk hp,s.hl,s.bl⟩
theorem pV.below {w w':World} {p:Nat} {h b:List Int} {n l:Int} (s:pV w p h b n l) (k:Below w.heap.size w w'):pV w' p h b n l:=⟨Below.blk k s.blk (aR s.blk),s.hl,s.bl⟩
theorem pV.drewN {w:World} {p:Nat} {h b:List Int} {n l:Int} (s:pV w p h b n l) (k:Nat):pV (w.drewN k) p h b n l:=⟨s.blk,s.hl,s.bl⟩
theorem pV.drew {w:World} {p:Nat} {h b:List Int} {n l:Int} (s:pV w p h b n l):pV w.drew p h b n l:=⟨s.blk,s.hl,s.bl⟩
theorem pV.alloc {w:World} {p:Nat} {h b:List Int} {n l:Int} (s:pV w p h b n l) (o:Obj):pV (w.alloc o) p h b n l:=⟨bf s.blk o,s.hl,s.bl⟩
theorem setA (cs:List Value) (i:Nat) (v:Value):cs.toArray.setIfInBounds i v=(cs.set i v).toArray:=by simp
theorem Te (w:World):(zeroValue 64).run Tryd.prog w = .ok (.agg (arr .u32 (List.replicate 64 0))) w:=by kernel_rfl
theorem sW:(Tryd.prog.info? 62).map (·.size)=some 8:=by kernel_rfl
end Go.Proofs.YthdgbgleklkaiaaDoor.Ha
namespace Go.Proofs.YthdgbgleklkaiaaDoor.Ha
open Go.RowKit
theorem aY (k:IntKind) (xs:List Int) (i:Nat) (v:Int):(arr k xs).setIfInBounds i (.int k v)=arr k (xs.set i v):=by
 unfold arr
 rw [setA,List.map_set]
theorem aU {w:World} {g:Nat} {k:IntKind} {xs:List Int} {t:TypeId} {fr:Nat×Nat} (h:w.heap[g]? = some (.cells (arr k xs) t fr)) (i:Nat) (hi:i < xs.length):w.cell? ⟨g,i,none⟩=some (.int k (xs.getD i 0)):=by
 rw [aG h,uw _ _ _ hi]
theorem bK {w:World} {g:Nat} {k:IntKind} {xs:List Int} {t:TypeId} (h:w.heap[g]? = some (.cells (arr k xs) t (0,0))) (i:Nat) (v:Int):(w.setCell ⟨g,i,none⟩ (.int k v)).heap[g]? = some (.cells (arr k (xs.set i v)) t (0,0)):=by
 rw [bC h,aY]
theorem byte_at {b:List Int} (hb:∀ x∈b,0≤x∧x≤255) (j:Nat):0≤b.getD j 0∧b.getD j 0≤255:=by
 simp only [List.getD]
 cases e:b[j]? with
 | none=>simp
 | some y=>simpa using hb y (List.mem_of_getElem? e)
end Go.Proofs.YthdgbgleklkaiaaDoor.Ha
