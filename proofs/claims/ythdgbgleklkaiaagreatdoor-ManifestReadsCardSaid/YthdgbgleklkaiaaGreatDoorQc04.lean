/- One step of a region that draws its order: A list of blocks of the cal. Condition: as each theorem says. -/
import Derived.Deep.DeepCutAuto
import Derived.Deep.LoopGhost
import Derived.Deep.RegionHeld3
import Derived.ScopeJumps
import Derived.StillTailTactics
import Derived.Test.YthdgbgleklkaiaaGreatDoorQc01
open List renaming length_map→abC,getElem?_append_right→abD,getElem?_append_left→abE,replicate→abG,getD→abH,set_append_right→abI,range→abJ,length_set→abK,getElem?_eq_none→abN,ext_getElem→abO,foldl_append→abP,getElem?_toArray→abQ,getElem?_cons_zero→abR,length_append→abS,drop_eq_nil_of_le→abT,getElem?_set→abU,getElem?_take→abV,map_append→abW,getElem_map→abX,getElem_set→abY,range_succ→abZ,set_append_left→acA,take_succ_eq_append_getElem→acC,take_of_length_le→acD,length_take→acE
open Go.Lib renaming hid→abF
open Nat renaming lt_or_ge→abL,eq_zero_or_pos→abM
set_option linter.unusedSimpArgs false
set_option linter.unusedVariables false
set_option maxRecDepth 100000
set_option maxHeartbeats 16000000
namespace Go.Proofs.YthdgbgleklkaiaaGreatDoor
open Go.RowKit
section
variable {P:Program}
theorem bA {ops:Array Oper} {o:Oper} {a:Act} {w:World} {K:Act→World→Prop} {Q:Exit→Act→World→Prop} {E:Prop} (hgd:o.guard=none) (t:TypeId) (ho:o.op = .alloc t)
  (z:Array Value) (hz:(zeroValue t).run P w = .ok (.agg z) w) (h:K (a.put o.dst (.pointer (some ⟨w.heap.size,0,none⟩))) (w.alloc (.cells z t))) :
  if Region.wanted o (yielded ops a.tmps)=true then Oper.wp P o a w K Q else E:=by
 have hw:Region.wanted o (yielded ops a.tmps)=true:=by simp [Region.wanted,hgd]
 rw [if_pos hw]
 unfold Oper.wp execOp
 simp only [ho,Instr.alloc,Sem.run_bind,hz,Result.andThen_ok]
 exact h
theorem aI {ops:Array Oper} {o:Oper} {a:Act} {w:World} {K:Act→World→Prop} {Q:Exit→Act→World→Prop} {E:Prop} (hgd:o.guard=none) (ty:TypeId) (x y:Operand) (ho:o.op = .store ty x y)
  (g:Nat) (cs ds:Array Value) (t:TypeId) (hb:w.heap[g]? = some (.cells cs t (0,0))) (hx:a.eval x = .pointer (some ⟨g,0,none⟩)) (hy:a.eval y = .agg ds)
  (hs:ds.size=cs.size) (hi:(P.info? ty).map (·.size)=some ds.size) (h1:ds.all (·.oneCell')=true)
  (h:∀ w',w'.heap[g]? = some (.cells ds t (0,0))→Kept (fun i=>i=g) w w'→w'.heap.size=w.heap.size→K (a.put o.dst undef) w') :
  if Region.wanted o (yielded ops a.tmps)=true then Oper.wp P o a w K Q else E:=by
 have hw:Region.wanted o (yielded ops a.tmps)=true:=by simp [Region.wanted,hgd]
 rw [if_pos hw]
 refine wp_store_mid ty x y ho g 0 ds hx hy (fun j hj=>?_) hi h1 (h _ ?_ ?_ ?_)
 ·rw [aF hb]
  exact ⟨by rw [Array.getElem?_eq_getElem (by omega)];rfl,aC hb _⟩
 ·rw [kP _ _ _ _ _ _ _ hb (by simp [hs])]
  have e:cs.toList.drop (0+ds.toList.length)=[]:=abT (by simp [hs])
  rw [e]
  simp
 ·exact jR g _ _ _ (Kept.refl _ _) (.inl rfl)
 ·have:∀ (vs:List Value) (o:Nat) (w:World),(w.setCells g o vs).heap.size=w.heap.size:=by
   intro vs
   induction vs with
   | nil=>intro o w;rfl
   | cons v vs ih=>intro o w;rw [World.setCells,ih];simp [World.setCell]
  exact this _ _ _
theorem eZ {ops:Array Oper} {o:Oper} {a:Act} {w:World} {K:Act→World→Prop} {Q:Exit→Act→World→Prop} {E:Prop} (hgd:o.guard=none) (ty:TypeId) (x:Operand) (ho:o.op = .load ty x)
  (g off:Nat) (cs:Array Value) (t:TypeId) (fr:Nat×Nat) (d:TypeDesc) (hb:w.heap[g]? = some (.cells cs t fr)) (hx:a.eval x = .pointer (some ⟨g,off,none⟩)) (k:IntKind) (xs:List Int)
  (hp:(cs.toList.drop off).take xs.length=xs.map (Value.int k)) (hu:P.underlying ty=some d) (hd:d.isRow=true) (hi:(P.info? ty).map (·.size)=some xs.length)
  (h:K (a.put o.dst (.agg (arr k xs))) w):if Region.wanted o (yielded ops a.tmps)=true then Oper.wp P o a w K Q else E:=by
 have hw:Region.wanted o (yielded ops a.tmps)=true:=by simp [Region.wanted,hgd]
 rw [if_pos hw]
 exact wp_load_mid ty x ho g off hx (xs.map (Value.int k)) d (aO hb off _ (by rw [abC];exact hp)) hu hd (by rw [abC];exact hi) h
end
end Go.Proofs.YthdgbgleklkaiaaGreatDoor
namespace Go.Proofs.YthdgbgleklkaiaaGreatDoor
open Go.RowKit
structure bO (w wr:World) (l:List (Nat×Array Value×TypeId)):Prop where
 mem:∀ (i g:Nat) (c:Array Value) (t:TypeId),l[i]? = some (g,c,t)→wr.heap[g]? = some (.cells c t (0,0))∧w.heap.size≤g
 inj:∀ (i j:Nat) (g:Nat) (c:Array Value) (t:TypeId) (c':Array Value) (t':TypeId),l[i]? = some (g,c,t)→l[j]? = some (g,c',t')→i=j
 below:Below w.heap.size w wr
theorem bO.nil (w:World):bO w w []:=⟨fun _ _ _ _ h=>by simp at h,fun _ _ _ _ _ _ _ h=>by simp at h,Below.refl _ w⟩
theorem bO.get {w wr:World} {l:List (Nat×Array Value×TypeId)} (h:bO w wr l) (i:Nat) {g:Nat} {c:Array Value} {t:TypeId} (hi:l[i]? = some (g,c,t)):wr.heap[g]? = some (.cells c t (0,0)):=(h.mem i g c t hi).1
theorem bO.low {w wr:World} {l:List (Nat×Array Value×TypeId)} (h:bO w wr l) (i:Nat) {g:Nat} {c:Array Value} {t:TypeId} (hi:l[i]? = some (g,c,t)):w.heap.size≤g:=(h.mem i g c t hi).2
theorem bO.lt {w wr:World} {l:List (Nat×Array Value×TypeId)} (h:bO w wr l) (i:Nat) {g:Nat} {c:Array Value} {t:TypeId} (hi:l[i]? = some (g,c,t)):g < wr.heap.size:=aV (h.get i hi)
theorem bO.kept {w wr w':World} {l:List (Nat×Array Value×TypeId)} (h:bO w wr l) (b:Below wr.heap.size wr w'):bO w w' l :=
 ⟨fun i _ _ _ hi=>⟨Below.blk b (h.get i hi) (h.lt i hi),h.low i hi⟩,h.inj,h.below.trans (b.mono h.below.size)⟩
theorem bO.drew {w wr:World} {l:List (Nat×Array Value×TypeId)} (h:bO w wr l):bO w wr.drew l:=⟨h.mem,h.inj,⟨h.below.os,h.below.tape,h.below.output,h.below.size,h.below.block⟩⟩
theorem bO.drewN {w wr:World} {l:List (Nat×Array Value×TypeId)} (h:bO w wr l) (k:Nat):bO w (wr.drewN k) l:=⟨h.mem,h.inj,Go.Proofs.YthdgbgleklkaiaaGreatDoor.Below.drewN h.below k⟩
theorem bO.alloc {w wr:World} {l:List (Nat×Array Value×TypeId)} (h:bO w wr l) (c:Array Value) (t:TypeId):bO w (wr.alloc (.cells c t)) (l ++ [(wr.heap.size,c,t)]):=by
 have hb:Below wr.heap.size wr (wr.alloc (.cells c t)):=(Below.refl _ wr).alloc (Nat.le_refl _) _
 have h1:=h.kept hb
 refine ⟨fun i g c' t' hi=>?_,fun i j g c1 t1 c2 t2 hi hj=>?_,h1.below⟩
 ·rcases abL i l.length with hl|hl
  ·rw [abE hl] at hi
   exact h1.mem i g c' t' hi
  ·rw [abD hl] at hi
   rcases abM (i - l.length) with h0|h0
   ·rw [h0] at hi
    simp only [abR,Option.some.injEq,Prod.mk.injEq] at hi
    obtain ⟨rfl,rfl,rfl⟩:=hi
    exact ⟨aH wr _,h.below.size⟩
   ·rw [abN (by simp;omega)] at hi
    cases hi
 ·rcases abL i l.length with hl|hl
  ·rw [abE hl] at hi
   rcases abL j l.length with hm|hm
   ·rw [abE hm] at hj
    exact h.inj i j _ _ _ _ _ hi hj
   ·rw [abD hm] at hj
    rcases abM (j - l.length) with h0|h0
    ·rw [h0] at hj
     simp only [abR,Option.some.injEq,Prod.mk.injEq] at hj
     have:=h.lt i hi
     omega
    ·rw [abN (by simp;omega)] at hj
     cases hj
  ·rw [abD hl] at hi
   rcases abM (i - l.length) with h0|h0
   ·rw [h0] at hi
    simp only [abR,Option.some.injEq,Prod.mk.injEq] at hi
    rcases abL j l.length with hm|hm
    ·rw [abE hm] at hj
     have:=h.lt j hj
     omega
    ·rw [abD hm] at hj
     rcases abM (j - l.length) with h2|h2
     ·omega
     ·rw [abN (by simp;omega)] at hj
      cases hj
   ·rw [abN (by simp;omega)] at hi
    cases hi
theorem bO.put {w wr w':World} {l:List (Nat×Array Value×TypeId)} (h:bO w wr l) (i:Nat) {g:Nat} {c:Array Value} {t:TypeId} (hi:l[i]? = some (g,c,t)) {d:Array Value} (k:Kept (fun x=>x=g) wr w') (hd:w'.heap[g]? = some (.cells d t (0,0))):bO w w' (l.set i (g,d,t)):=by
 have hil:i < l.length:=(List.getElem?_eq_some_iff.1 hi).1
 refine ⟨fun j g' c' t' hj=>?_,fun j j' g' c1 t1 c2 t2 hj hj'=>?_,h.below.trans (k.toBelow h.below.size (by rintro x rfl;exact h.low i hi))⟩
 ·rw [abU] at hj
  by_cases e:i=j
  ·subst e
   rw [if_pos rfl,if_pos hil] at hj
   simp only [Option.some.injEq,Prod.mk.injEq] at hj
   obtain ⟨rfl,rfl,rfl⟩:=hj
   exact ⟨hd,h.low i hi⟩
  ·rw [if_neg e] at hj
   refine ⟨k.blk (h.get j hj) ?_,h.low j hj⟩
   rintro rfl
   exact e (h.inj i j _ _ _ _ _ hi hj)
 ·have un:∀ (m:Nat) (c0:Array Value) (t0:TypeId),(l.set i (g,d,t))[m]? = some (g',c0,t0)→∃ c0 t0,l[m]? = some (g',c0,t0):=by
   intro m c0 t0 hm
   rw [abU] at hm
   by_cases e:i=m
   ·subst e
    rw [if_pos rfl,if_pos hil] at hm
    simp only [Option.some.injEq,Prod.mk.injEq] at hm
    obtain ⟨rfl, -, -⟩:=hm
    exact ⟨_,_,hi⟩
   ·rw [if_neg e] at hm
    exact ⟨_,_,hm⟩
  obtain ⟨a1,b1,e1⟩:=un j c1 t1 hj
  obtain ⟨a2,b2,e2⟩:=un j' c2 t2 hj'
  exact h.inj j j' _ _ _ _ _ e1 e2
theorem bO.cell {w wr:World} {l:List (Nat×Array Value×TypeId)} (h:bO w wr l) (i:Nat) {g:Nat} {c:Array Value} {t:TypeId} (hi:l[i]? = some (g,c,t)) (o:Nat) (v:Value):bO w (wr.setCell ⟨g,o,none⟩ v) (l.set i (g,c.setIfInBounds o v,t)) :=
 h.put i hi ((Kept.refl (fun x=>x=g) wr).at o v) (aQ (h.get i hi) v)
theorem bO.ne {w wr:World} {l:List (Nat×Array Value×TypeId)} (h:bO w wr l) (i j:Nat) {g g':Nat} {c c':Array Value} {t t':TypeId} (hi:l[i]? = some (g,c,t)) (hj:l[j]? = some (g',c',t')) (hij:i≠j):g≠g':=by
 rintro rfl
 exact hij (h.inj i j _ _ _ _ _ hi hj)
theorem bO.cast {w wr:World} {l l':List (Nat×Array Value×TypeId)} (h:bO w wr l) (e:l=l'):bO w wr l':=e▸h
theorem bO.less {w wr:World} {l:List (Nat×Array Value×TypeId)} (h:bO w wr l) (n:Nat):bO w wr (l.take n):=by
 have un:∀ (i:Nat) (x:Nat×Array Value×TypeId),(l.take n)[i]? = some x→l[i]? = some x:=by
  intro i x hx
  rw [abV] at hx
  split at hx
  ·exact hx
  ·cases hx
 exact ⟨fun i g c t hi=>h.mem i g c t (un _ _ hi),fun i j g c t c' t' hi hj=>h.inj i j g c t c' t' (un _ _ hi) (un _ _ hj),h.below⟩
theorem bO.one (w:World) (c:Array Value) (t:TypeId):bO w (w.alloc (.cells c t)) [(w.heap.size,c,t)]:=(bO.nil w).alloc c t
theorem Dc (w:World) (o:Obj):(w.alloc o).heap.size=w.heap.size+1:=by simp
theorem bO.two (w:World) (c d:Array Value) (t u:TypeId):bO w ((w.alloc (.cells c t)).alloc (.cells d u)) [(w.heap.size,c,t),(w.heap.size+1,d,u)]:=by
 have:=(bO.one w c t).alloc d u
 rw [Dc] at this
 exact this
theorem bO.three (w:World) (c d e:Array Value) (t u v:TypeId):bO w (((w.alloc (.cells c t)).alloc (.cells d u)).alloc (.cells e v)) [(w.heap.size,c,t),(w.heap.size+1,d,u),(w.heap.size+1+1,e,v)]:=by
 have:=(bO.two w c d t u).alloc e v
 rw [Dc,Dc] at this
 exact this
theorem bO.four (w:World) (c d e f:Array Value) (t u v x:TypeId):bO w ((((w.alloc (.cells c t)).alloc (.cells d u)).alloc (.cells e v)).alloc (.cells f x)) [(w.heap.size,c,t),(w.heap.size+1,d,u),(w.heap.size+1+1,e,v),(w.heap.size+1+1+1,f,x)]:=by
 have:=(bO.three w c d e t u v).alloc f x
 rw [Dc,Dc,Dc] at this
 exact this
theorem av (k k':IntKind) {xs ys:List Int} {n:Nat} (hx:xs.length=n) (hy:ys.length=n):(arr k xs).size=(arr k' ys).size:=by rw [aD,aD,hx,hy]
theorem aP {w:World} {g:Nat} {k:IntKind} {xs:List Int} {t:TypeId} (h:w.heap[g]? = some (.cells (arr k xs) t (0,0))) (i:Nat) (hi:i < xs.length):w.cell? ⟨g,i,none⟩=some (.int k (xs.getD i 0)):=cB h i hi
theorem tC (k:IntKind) (a b c:List Int) (n:Nat) (ha:a.length=n):((arr k (a ++ (b ++ c))).toList.drop n).take b.length=b.map (Value.int k):=by
 rw [bN,abW,abW,List.drop_left' (by rw [abC];exact ha),List.take_left' (by rw [abC])]
theorem TK (k:IntKind) (a b c d:List Int) (n:Nat) (ha:a.length=n) (hb:b.length=n) (hc:c.length=n) :
  ((arr k (a ++ (b ++ (c ++ d)))).toList.drop 0).take a.length=a.map (Value.int k)∧((arr k (a ++ (b ++ (c ++ d)))).toList.drop n).take b.length=b.map (Value.int k) ∧
  ((arr k (a ++ (b ++ (c ++ d)))).toList.drop (n+n)).take c.length=c.map (Value.int k)∧((arr k (a ++ (b ++ (c ++ d)))).toList.drop (n+n+n)).take d.length=d.map (Value.int k):=by
 refine ⟨?_,tC k a b (c ++ d) n ha,?_,?_⟩
 ·have:=tC k [] a (b ++ (c ++ d)) 0 rfl
  simpa using this
 ·have:=tC k (a ++ b) c d (n+n) (by rw [abS,ha,hb])
  simpa using this
 ·have:=tC k (a ++ (b ++ c)) d [] (n+n+n) (by rw [abS,abS,ha,hb,hc];omega)
  simpa using this
section
variable {P:Program} {ops:Array Oper} {rest:List Oper} {o:Oper} {a:Act} {w w0:World} {Q:Exit→Act→World→Prop} {l:List (Nat×Array Value×TypeId)} {t:TypeId} {k:IntKind} {ty:TypeId} {x y:Operand} {g off:Nat} {cs ds:Array Value} {d:TypeDesc} {xs:List Int} {fr:Nat×Nat}
theorem lA (hgd:o.guard=none) (ho:o.op = .alloc t) (hz:(zeroValue t).run P w = .ok (.agg cs) w) (HB:RowKit.Hid (bO w0 w l)) (h:∀ (g:Nat) (w':World),RowKit.Hid (bO w0 w' (l ++ [(g,cs,t)]))→wpList P ops Q rest (a.put o.dst (.pointer (some ⟨g,0,none⟩))) w'):wpList P ops Q (o :: rest) a w :=
 ah hgd t ho cs hz (h _ _ (abF (HB.out.alloc cs t)))
theorem lS (hgd:o.guard=none) (ho:o.op = .store ty x y) (HB:RowKit.Hid (bO w0 w l)) (i:Nat) (hl:l[i]? = some (g,cs,t)) (hx:a.eval x = .pointer (some ⟨g,0,none⟩)) (hy:a.eval y = .agg ds) (hs:ds.size=cs.size) (hi:(P.info? ty).map (·.size)=some ds.size) (h1:ds.all (·.oneCell')=true)
  (h:∀ w',RowKit.Hid (bO w0 w' (l.set i (g,ds,t)))→wpList P ops Q rest (a.put o.dst undef) w'):wpList P ops Q (o :: rest) a w :=
 au hgd ty x y ho g cs ds t (HB.out.get i hl) hx hy hs hi h1 (fun w' h2 h3 _=>h w' (abF (HB.out.put i hl h3 h2)))
theorem lL (hgd:o.guard=none) (ho:o.op = .load ty x) (hb:w.heap[g]? = some (.cells cs t fr)) (hx:a.eval x = .pointer (some ⟨g,off,none⟩)) (hp:(cs.toList.drop off).take xs.length=xs.map (Value.int k)) (hu:P.underlying ty=some d) (hd:d.isRow=true) (hi:(P.info? ty).map (·.size)=some xs.length)
  (h:wpList P ops Q rest (a.put o.dst (.agg (arr k xs))) w):wpList P ops Q (o :: rest) a w:=aB hgd ty x ho g off cs t fr d hb hx k xs hp hu hd hi h
end
section
variable {P:Program} {f:FuncId} {args:Array Value} {w w0:World} {Q:Ending→World→Prop} {l:List (Nat×Array Value×TypeId)}
theorem lC {e0:Ending} (hc:Calls P f args w fun e w'=>e=e0∧Below w.heap.size w w') (HB:RowKit.Hid (bO w0 w l)) (h:∀ w',RowKit.Hid (bO w0 w' l)→Q e0 w'):Calls P f args w Q:=hc.mono (by rintro e w' ⟨rfl,hb⟩;exact h _ (abF (HB.out.kept hb)))
theorem lZ {F:List Int→Ending} {R:List Int→Prop} (hc:Calls P f args w fun e w'=>∃ zs,e=F zs∧R zs∧Below w.heap.size w w') (HB:RowKit.Hid (bO w0 w l)) (h:∀ zs w',RowKit.Hid (R zs)→RowKit.Hid (bO w0 w' l)→Q (F zs) w'):Calls P f args w Q:=hc.mono (by rintro e w' ⟨zs,rfl,hr,hb⟩;exact h _ _ (abF hr) (abF (HB.out.kept hb)))
end
section
variable {P:Program} {ops:Array Oper} {Q:Exit→Act→World→Prop} {md:Region.Mode} {S:World→Prop} {fuel:Nat} {listed:Array Bool} {a:Act} {w:World}
theorem pT (i:Nat) (oi:Oper) (v:Value) (h:wpAnyH P md ops Q S fuel (listed.setIfInBounds i true) (a.put oi.dst v) w) (hi:ops[i]? = some oi:=by rfl) (hs:Region.noSelect ops=true:=by kernel_rfl) (hf:Region.free md ops listed i=true:=by kernel_rfl) (hr:(Region.ready md ops listed).contains i=true:=by kernel_rfl) (hQ:∀ c a w,Q (.panic c) (a.put oi.dst v) w→Q (.panic c) a w:=by exact fun _ _ _ h=>h)
  (hw:Region.wanted oi (yielded ops a.tmps)=true:=by rfl) (hy:∀ u,S u→(execOp a.eval oi).run P u = .ok (.value v) u:=by intro u aR;(try dsimp only at aR);go_simp;try (with_reducible rfl)) (hS:S w:=by assumption):wpAnyH P md ops Q S (fuel+1) listed a w:=wpAnyH_take hi hs hf hr hQ (.inl ⟨hw,hy⟩) hS h
theorem pR (i:Nat) (o:Oper) (h:∀ K':Act→World→Prop,Shut (∀ a w,S w→(S w→wpAnyH P md ops Q S fuel (listed.setIfInBounds i true) a w)→K' a w)→if Region.wanted o (yielded ops a.tmps)=true then Oper.wp P o a w K' Q else K' (a.put o.dst undef) w) (hr:Region.ready md ops listed=[i]:=by kernel_rfl) (ho:ops[i]? = some o:=by rfl):wpAnyH P md ops Q S (fuel+1) listed a w :=
 wpAnyH_ready hr (by simp) (AllReadyH.cons ho h AllReadyH.nil)
theorem zN {t:TypeId} {k:IntKind} {n:Nat} (h:∀ w,(zeroValue t).run P w = .ok (.agg (arr k (abG n 0))) w):∃ zs:List Int,zs=abG n 0∧RowKit.Hid (∀ w,(zeroValue t).run P w = .ok (.agg (arr k zs)) w)∧RowKit.Hid (zs.length=n):=⟨_,rfl,abF h,abF (by simp)⟩
end
end Go.Proofs.YthdgbgleklkaiaaGreatDoor
namespace Go.Proofs.YthdgbgleklkaiaaGreatDoor.Hb
open Go.RowKit
def K:List Int:=[4794697086780616226,8158064640168781261,13096744586834688815,16840607885511220156,4131703408338449720,6480981068601479193,10538285296894168987,12329834152419229976,15566598209576043074,1334009975649890238,2608012711638119052,6128411473006802146,8268148722764581231,9286055187155687089,11230858885718282805,13951009754708518548,16472876342353939154,17275323862435702243,1135362057144423861,2597628984639134821,3308224258029322869,5365058923640841347,6679025012923562964,8573033837759648693,10970295158949994411,12119686244451234320,12683024718118986047,13788192230050041572,14330467153632333762,15395433587784984357,489312712824947311,1452737877330783856,2861767655752347644,3322285676063803686,5560940570517711597,5996557281743188959,7280758554555802590,8532644243296465576,9350256976987008742,10552545826968843579,11727347734174303076,12113106623233404929,14000437183269869457,14369950271660146224,15101387698204529176,15463397548674623760,17586052441742319658,1182934255886127544,1847814050463011016,2177327727835720531,2830643537854262169,3796741975233480872,4115178125766777443,5681478168544905931,6601373596472566643,7507060721942968483,8399075790359081724,8693463985226723168,9568029438360202098,10144078919501101548,10430055236837252648,11840083180663258601,13761210420658862357,14299343276471374635,14566680578165727644,15097957966210449927,16922976911328602910,17689382322260857208,500013540394364858,748580250866718886,1242879168328830382,1977374033974150939,2944078676154940804,3659926193048069267,4368137639120453308,4836135668995329356,5532061633213252278,6448918945643986474,6902733635092675308,7801388544844847127]
def H0:List Int:=[7640891576956012808,13503953896175478587,4354685564936845355,11912009170470909681,5840696475078001361,11170449401992604703,2270897969802886507,6620516959819538809]
def eB (x n m:Int):Int:=bits .or .u64 (IntKind.u64.wrap (x * m)) (x / n)
def add (x y:Int):Int:=IntKind.u64.wrap (x+y)
def s0 (x:Int):Int:=bits .xor .u64 (bits .xor .u64 (eB x 2 9223372036854775808) (eB x 256 72057594037927936)) (x / 128)
def s1 (x:Int):Int:=bits .xor .u64 (bits .xor .u64 (eB x 524288 35184372088832) (eB x 2305843009213693952 8)) (x / 64)
def e1 (x:Int):Int:=bits .xor .u64 (bits .xor .u64 (eB x 16384 1125899906842624) (eB x 262144 70368744177664)) (eB x 2199023255552 8388608)
def e0 (x:Int):Int:=bits .xor .u64 (bits .xor .u64 (eB x 268435456 68719476736) (eB x 17179869184 1073741824)) (eB x 549755813888 33554432)
def ch (e f g:Int):Int:=bits .xor .u64 (bits .and .u64 e f) (bits .and .u64 (bits .xor .u64 (if IntKind.u64.signed=true then -1 else IntKind.u64.max) e) g)
def maj (a b c:Int):Int:=bits .xor .u64 (bits .xor .u64 (bits .and .u64 a b) (bits .and .u64 a c)) (bits .and .u64 b c)
def tx (k w:Int) (v:List Int):Int:=add (add (add (add (v.getD 7 0) (e1 (v.getD 4 0))) (ch (v.getD 4 0) (v.getD 5 0) (v.getD 6 0))) k) w
def ty (v:List Int):Int:=add (e0 (v.getD 0 0)) (maj (v.getD 0 0) (v.getD 1 0) (v.getD 2 0))
def Sq (k w:Int) (v:List Int):List Int:=[add (tx k w v) (ty v),v.getD 0 0,v.getD 1 0,v.getD 2 0,add (v.getD 3 0) (tx k w v),v.getD 4 0,v.getD 5 0,v.getD 6 0]
def next (ws:List Int) (t:Nat):Int:=add (add (add (s1 (ws.getD (t - 2) 0)) (ws.getD (t - 7) 0)) (s0 (ws.getD (t - 15) 0))) (ws.getD (t - 16) 0)
def part (b:List Int) (o:Nat):Nat→Int
 | 0=>0
 | n+1=>bits .or .u64 (IntKind.u64.wrap (part b o n * 256)) (b.getD (o+n) 0)
def pre (b:List Int) (i:Nat):List Int:=(abJ 80).map fun j=>part b (8 * j) (min 8 (i - 8 * j))
def sched (b:List Int) (n:Nat):List Int:=(abJ n).foldl (fun ws j=>ws.set (16+j) (next ws (16+j))) (pre b 128)
def rounds (ws h:List Int) (n:Nat):List Int:=(abJ n).foldl (fun v t=>Sq (K.getD t 0) (ws.getD t 0) v) h
def sums (h v:List Int) (n:Nat):List Int:=h.mapIdx fun i x=>if i < n then add x (v.getD i 0) else x
def comp (h b:List Int):List Int:=sums h (rounds (sched b 64) h 80) 8
theorem yx (b:List Int) (i:Nat):(pre b i).length=80:=by simp [pre]
theorem jW (b:List Int):pre b 0=abG 80 0:=by
 unfold pre
 apply abO
 ·simp
 ·intro i h1 h2
  rw [List.getElem_replicate,abX,Nat.zero_sub,Nat.min_zero]
  rfl
theorem Fv (b:List Int) (i j:Nat) (hj:j < 80):(pre b i).getD j 0=part b (8 * j) (min 8 (i - 8 * j)):=by simp [pre,abH,hj]
theorem zO (b:List Int) (i:Nat) (hi:i < 128):pre b (i+1)=(pre b i).set (i / 8) (bits .or .u64 (IntKind.u64.wrap ((pre b i).getD (i / 8) 0 * 256)) (b.getD i 0)):=by
 rw [Fv _ _ _ (by omega)]
 apply abO
 ·simp [pre]
 ·intro j h1 h2
  simp only [pre,abC,List.length_range] at h1
  rw [abY]
  simp only [pre,abX,List.getElem_range]
  by_cases e:i / 8=j
  ·subst e
   rw [if_pos rfl,show min 8 (i+1 - 8 * (i / 8))=i % 8+1 by omega,show min 8 (i - 8 * (i / 8))=i % 8 by omega,part,show 8 * (i / 8)+i % 8=i by omega]
  ·rw [if_neg e]
   congr 1
   omega
theorem jK (b:List Int) (n:Nat):sched b (n+1)=(sched b n).set (16+n) (next (sched b n) (16+n)):=by simp [sched,abZ,abP]
theorem gY (b:List Int) (n:Nat):(sched b n).length=80:=by
 induction n with
 | zero=>simp [sched,pre]
 | succ n ih=>rw [jK,abK,ih]
theorem rounds_succ (ws h:List Int) (n:Nat):rounds ws h (n+1)=Sq (K.getD n 0) (ws.getD n 0) (rounds ws h n):=by simp [rounds,abZ,abP]
theorem gP (ws h:List Int) (hh:h.length=8) (n:Nat):(rounds ws h n).length=8:=by
 cases n with
 | zero=>simpa [rounds] using hh
 | succ n=>rw [rounds_succ];rfl
theorem mK (h v:List Int):sums h v 0=h:=by
 unfold sums
 apply abO <;> simp
theorem zw (h v:List Int) (n:Nat):(sums h v n).length=h.length:=by simp [sums]
theorem oV (h v:List Int) (n i:Nat) (hi:i < h.length) (hn:n≤i):(sums h v n).getD i 0=h.getD i 0:=by
 simp [sums,abH,hi]
 omega
theorem mM (h v:List Int) (n:Nat) (_hn:n < h.length):sums h v (n+1)=(sums h v n).set n (add (h.getD n 0) (v.getD n 0)):=by
 apply abO
 ·simp [sums]
 ·intro i h1 h2
  simp only [sums,List.length_mapIdx] at h1
  rw [abY]
  simp only [sums,List.getElem_mapIdx]
  by_cases e:n=i
  ·subst e
   rw [if_pos (by omega),if_pos rfl]
   simp [abH,h1]
  ·rw [if_neg e]
   by_cases e2:i < n
   ·rw [if_pos (by omega),if_pos e2]
   ·rw [if_neg (by omega),if_neg e2]
theorem pY (h b:List Int):(comp h b).length=h.length:=zw _ _ _
theorem lW:K.length=80:=by decide
structure S where
 h:List Int
 b:List Int
 n:Nat
def S.take (s:S) (x:Int):S:=if s.n+1=128 then ⟨comp s.h (s.b.set s.n x),s.b.set s.n x,0⟩ else ⟨s.h,s.b.set s.n x,s.n+1⟩
def S.all (s:S) (xs:List Int):S:=xs.foldl S.take s
def S.new:S:=⟨H0,abG 128 0,0⟩
def tail (n:Nat):List Int:=128 :: abG ((2 * 128 - 16 - 1 - n % 128) % 128) 0 ++ abG (16 - 8) 0 ++ (abJ 8).map fun i=>((8 * n / 2 ^ (8 * (7 - i)) % 256:Nat):Int)
def digest (h:List Int):List Int:=(abJ 64).map fun i=>h.getD (i / 8) 0 / 2 ^ (8 * (7 - i % 8)) % 256
def hash (m:List Int):List Int:=digest ((S.new.all (m ++ tail m.length)).h)
theorem dM (m:List Int):(hash m).length=64:=by simp [hash,digest]
structure S.Ok (s:S):Prop where
 h:s.h.length=8
 b:s.b.length=128
 n:s.n < 128
 by0:∀ x∈s.b,0≤x∧x≤255
theorem S.Ok.take {s:S} (h:s.Ok) (x:Int) (hx:0≤x∧x≤255):(s.take x).Ok:=by
 have hn:=h.n
 have hb:∀ y∈s.b.set s.n x,0≤y∧y≤255:=by
  intro y hy
  rcases List.mem_or_eq_of_mem_set hy with h1|rfl
  ·exact h.by0 y h1
  ·exact hx
 unfold S.take
 split
 ·exact ⟨(pY _ _).trans h.h,by rw [abK];exact h.b,by show 0 < _;omega,hb⟩
 ·exact ⟨h.h,by rw [abK];exact h.b,by show s.n+1 < _;omega,hb⟩
theorem S.Ok.all {s:S} (h:s.Ok):∀ (xs:List Int),(∀ x∈xs,0≤x∧x≤255)→(s.all xs).Ok:=by
 intro xs
 induction xs generalizing s with
 | nil=>intro _;exact h
 | cons x xs ih=>intro hx;exact ih (h.take x (hx x (by simp))) fun y hy=>hx y (by simp [hy])
theorem S.Ok.new:S.new.Ok:=by
 refine ⟨rfl,by simp [S.new],by simp [S.new],?_⟩
 intro x hx
 have:=List.eq_of_mem_replicate hx
 omega
theorem S.zi (s:S) (h:s.n < 128) (x:Int):(s.take x).n=(s.n+1) % 128:=by
 unfold S.take
 split
 ·rename_i e;rw [e]
 ·show s.n+1=_;omega
theorem S.Ee:∀ (xs:List Int) (s:S),s.n < 128→(s.all xs).n=(s.n+xs.length) % 128
 | [],s,h=>by show s.n=_;simp;omega
 | x :: xs,s,h=>by
  have h1:(s.take x).n < 128:=by rw [S.zi s h];omega
  have:=S.Ee xs (s.take x) h1
  show ((s.take x).all xs).n=_
  rw [this,S.zi s h,List.length_cons]
  omega
theorem S.all_append (s:S) (xs ys:List Int):s.all (xs ++ ys)=(s.all xs).all ys:=by simp [S.all,abP]
theorem S.jC (s:S) (xs:List Int) (x:Int):s.all (xs ++ [x])=(s.all xs).take x:=by simp [S.all,abP]
end Go.Proofs.YthdgbgleklkaiaaGreatDoor.Hb
namespace Go.Proofs.YthdgbgleklkaiaaGreatDoor.Hb
open Go.RowKit
def jo (h b:List Int) (n l:Int):Array Value:=(h.map (Value.int .u64) ++ (K.map (Value.int .u64) ++ (b.map (Value.int .u8) ++ [Value.int .i64 n,Value.int .u64 l]))).toArray
structure bE (w:World) (p:Nat) (h b:List Int) (n l:Int):Prop where
 blk:w.heap[p]? = some (.cells (jo h b n l) 228 (0,0))
 hl:h.length=8
 bl:b.length=128
theorem bE.fr {w:World} {p:Nat} {h b:List Int} {n l:Int} (s:bE w p h b n l) (o:Nat):w.frozen? ⟨p,o,none⟩=false:=aC s.blk o
theorem bE.kept {T:Nat→Prop} {w w':World} {p:Nat} {h b:List Int} {n l:Int} (s:bE w p h b n l) (k:Kept T w w') (hp:¬ T p):bE w' p h b n l:=⟨k.blk s.blk hp,s.hl,s.bl⟩
theorem bE.below {w w':World} {p:Nat} {h b:List Int} {n l:Int} (s:bE w p h b n l) (k:Below w.heap.size w w'):bE w' p h b n l:=⟨Below.blk k s.blk (aV s.blk),s.hl,s.bl⟩
theorem bE.drewN {w:World} {p:Nat} {h b:List Int} {n l:Int} (s:bE w p h b n l) (k:Nat):bE (w.drewN k) p h b n l:=⟨s.blk,s.hl,s.bl⟩
theorem bE.drew {w:World} {p:Nat} {h b:List Int} {n l:Int} (s:bE w p h b n l):bE w.drew p h b n l:=⟨s.blk,s.hl,s.bl⟩
theorem bE.alloc {w:World} {p:Nat} {h b:List Int} {n l:Int} (s:bE w p h b n l) (o:Obj):bE (w.alloc o) p h b n l:=⟨aY s.blk o,s.hl,s.bl⟩
theorem nS (k:IntKind) (xs:List Int) (i:Nat) (hi:i < xs.length):(xs.map (Value.int k))[i]? = some (.int k (xs.getD i 0)):=by simp [abH,hi]
theorem VR {h b:List Int} (n l:Int) (hl:h.length=8) (i:Nat) (hi:i < 8):(jo h b n l)[i]? = some (.int .u64 (h.getD i 0)):=by
 unfold jo
 rw [abQ,abE (by simp;omega),nS _ _ _ (by omega)]
theorem VQ {h b:List Int} (n l:Int) (hl:h.length=8) (i:Nat) (hi:i < 80):(jo h b n l)[8+i]? = some (.int .u64 (K.getD i 0)):=by
 unfold jo
 have kl:=lW
 rw [abQ,abD (by simp;omega),abE (by simp;omega),abC,hl,Nat.add_sub_cancel_left,nS _ _ _ (by omega)]
theorem Ir {h b:List Int} (n l:Int) (hl:h.length=8) (bl:b.length=128) (i:Nat) (hi:i < 128):(jo h b n l)[88+i]? = some (.int .u8 (b.getD i 0)):=by
 unfold jo
 have kl:=lW
 rw [abQ,abD (by simp;omega),abD (by simp;omega),abE (by simp;omega),abC,abC,hl,kl,show 88+i - 8 - 80=i by omega,nS _ _ _ (by omega)]
theorem zA {h b:List Int} (n l:Int) (hl:h.length=8) (bl:b.length=128):(jo h b n l)[216]? = some (.int .i64 n)∧(jo h b n l)[217]? = some (.int .u64 l):=by
 unfold jo
 have kl:=lW
 constructor <;> rw [abQ,abD (by simp;omega),abD (by simp;omega),abD (by simp;omega)] <;> simp [hl,kl,bl]
theorem xH (cs:List Value) (i:Nat) (v:Value):cs.toArray.setIfInBounds i v=(cs.set i v).toArray:=by simp
theorem zy {h b:List Int} (n l:Int) (hl:h.length=8) (i:Nat) (hi:i < 8) (x:Int):(jo h b n l).setIfInBounds i (.int .u64 x)=jo (h.set i x) b n l:=by
 unfold jo
 rw [xH,acA _ _ (by simp;omega),List.map_set]
theorem oW {h b:List Int} (n l:Int) (hl:h.length=8) (bl:b.length=128) (i:Nat) (hi:i < 128) (x:Int):(jo h b n l).setIfInBounds (88+i) (.int .u8 x)=jo h (b.set i x) n l:=by
 unfold jo
 have kl:=lW
 rw [xH,abI _ _ (by simp;omega),abI _ _ (by simp;omega),acA _ _ (by simp;omega),List.map_set,abC,abC,hl,kl,show 88+i - 8 - 80=i by omega]
theorem kV {h b:List Int} (n l:Int) (hl:h.length=8) (bl:b.length=128) (x:Int):(jo h b n l).setIfInBounds 216 (.int .i64 x)=jo h b x l∧(jo h b n l).setIfInBounds 217 (.int .u64 x)=jo h b n x:=by
 unfold jo
 have kl:=lW
 constructor <;> rw [xH,abI _ _ (by simp;omega),abI _ _ (by simp;omega),abI _ _ (by simp;omega)] <;> simp [hl,kl,bl]
theorem bE.at_h {w:World} {p:Nat} {h b:List Int} {n l:Int} (s:bE w p h b n l) (i:Nat) (hi:i < 8):w.cell? ⟨p,i,none⟩=some (.int .u64 (h.getD i 0)):=by rw [aF s.blk,VR n l s.hl i hi]
theorem bE.at_k {w:World} {p:Nat} {h b:List Int} {n l:Int} (s:bE w p h b n l) (i:Nat) (hi:i < 80):w.cell? ⟨p,8+i,none⟩=some (.int .u64 (K.getD i 0)):=by rw [aF s.blk,VQ n l s.hl i hi]
theorem bE.at_b {w:World} {p:Nat} {h b:List Int} {n l:Int} (s:bE w p h b n l) (i:Nat) (hi:i < 128):w.cell? ⟨p,88+i,none⟩=some (.int .u8 (b.getD i 0)):=by rw [aF s.blk,Ir n l s.hl s.bl i hi]
theorem bE.NI {w:World} {p:Nat} {h b:List Int} {n l:Int} (s:bE w p h b n l):w.cell? ⟨p,216,none⟩=some (.int .i64 n):=by rw [aF s.blk,(zA n l s.hl s.bl).1]
theorem bE.at_l {w:World} {p:Nat} {h b:List Int} {n l:Int} (s:bE w p h b n l):w.cell? ⟨p,217,none⟩=some (.int .u64 l):=by rw [aF s.blk,(zA n l s.hl s.bl).2]
theorem bE.Wh {w:World} {p:Nat} {h b:List Int} {n l:Int} (s:bE w p h b n l) (i:Nat) (hi:i < 8) (x:Int):bE (w.setCell ⟨p,i,none⟩ (.int .u64 x)) p (h.set i x) b n l :=
 ⟨by rw [aQ s.blk,zy n l s.hl i hi],by rw [abK];exact s.hl,s.bl⟩
theorem bE.Wi {w:World} {p:Nat} {h b:List Int} {n l:Int} (s:bE w p h b n l) (i:Nat) (hi:i < 128) (x:Int):bE (w.setCell ⟨p,88+i,none⟩ (.int .u8 x)) p h (b.set i x) n l :=
 ⟨by rw [aQ s.blk,oW n l s.hl s.bl i hi],s.hl,by rw [abK];exact s.bl⟩
theorem bE.IB {w:World} {p:Nat} {h b:List Int} {n l:Int} (s:bE w p h b n l) (x:Int):bE (w.setCell ⟨p,216,none⟩ (.int .i64 x)) p h b x l :=
 ⟨by rw [aQ s.blk,(kV n l s.hl s.bl x).1],s.hl,s.bl⟩
theorem bE.Wd {w:World} {p:Nat} {h b:List Int} {n l:Int} (s:bE w p h b n l) (x:Int):bE (w.setCell ⟨p,217,none⟩ (.int .u64 x)) p h b n x :=
 ⟨by rw [aQ s.blk,(kV n l s.hl s.bl x).2],s.hl,s.bl⟩
theorem yR (w:World):(zeroValue 213).run Tryz.prog w = .ok (.agg (arr .u64 (abG 80 0))) w:=by kernel_rfl
theorem mO:(Tryz.prog.info? 202).map (·.size)=some 8:=by kernel_rfl
end Go.Proofs.YthdgbgleklkaiaaGreatDoor.Hb
namespace Go.Proofs.YthdgbgleklkaiaaGreatDoor.Hb
open Go.RowKit
theorem S.take_len (s:S) (x:Int):(s.take x).h.length=s.h.length∧(s.take x).b.length=s.b.length:=by
 unfold S.take
 split
 ·exact ⟨pY _ _,by simp⟩
 ·exact ⟨rfl,by simp⟩
theorem S.og:∀ (xs:List Int) (s:S),(s.all xs).h.length=s.h.length∧(s.all xs).b.length=s.b.length
 | [],_=>⟨rfl,rfl⟩
 | x :: xs,s=>by
  have:=S.og xs (s.take x)
  have h:=S.take_len s x
  exact ⟨this.1.trans h.1,this.2.trans h.2⟩
theorem set_mid (a b:List Int) (i:Nat) (x:Int) (ha:a.length=i) (hb:i < b.length):(a ++ b.drop i).set i x=a ++ [x] ++ b.drop (i+1):=by
 rw [abI _ _ (by omega),ha,Nat.sub_self,List.drop_eq_getElem_cons hb,List.set_cons_zero]
 simp
theorem S.Gj (s:S) (bl:List Int) (hn:s.n=0) (hb:s.b.length=128) (hl:bl.length=128):∀ i,i < 128→s.all (bl.take i)=⟨s.h,bl.take i ++ s.b.drop i,i⟩:=by
 intro i
 induction i with
 | zero =>
  intro _
  obtain ⟨h,b,n⟩:=s
  simp only at hn
  subst hn
  simp [S.all]
 | succ i ih =>
  intro hi
  have e:bl.take (i+1)=bl.take i ++ [bl.getD i 0]:=by
   rw [acC (by omega)]
   simp [abH,show i < bl.length by omega]
  rw [e,S.jC,ih (by omega),S.take,if_neg (by show ¬ i+1=_;omega)]
  simp only
  rw [set_mid _ _ _ _ (by simp;omega) (by omega)]
theorem S.vJ (s:S) (bl:List Int) (hn:s.n=0) (hb:s.b.length=128) (hl:bl.length=128):s.all bl=⟨comp s.h bl,bl,0⟩:=by
 have e:bl=bl.take (128 - 1) ++ [bl.getD (128 - 1) 0]:=by
  have:bl.take (128 - 1+1)=bl.take (128 - 1) ++ [bl.getD (128 - 1) 0]:=by
   rw [acC (by omega)]
   simp [abH,hl]
  rw [← this,acD (by omega)]
 have hd:(bl.take (128 - 1) ++ s.b.drop (128 - 1)).set (128 - 1) (bl.getD (128 - 1) 0)=bl:=by
  rw [set_mid _ _ _ _ (by simp;omega) (by omega),abT (by omega),List.append_nil,← e]
 have h1:s.all bl=(s.all (bl.take (128 - 1))).take (bl.getD (128 - 1) 0):=by rw [← S.jC,← e]
 rw [h1,S.Gj s bl hn hb hl _ (by omega),S.take,if_pos rfl]
 simp only [hd]
def eX (pm:List Int) (q:Nat):List Int:=(pm.drop (128 * q)).take 128
def jA (pm:List Int) (q:Nat):List Int:=(S.new.all (pm.take (128 * q))).h
theorem Ls (pm:List Int) (q:Nat):(jA pm q).length=8:=(S.og _ _).1
theorem FV (pm:List Int):jA pm 0=H0:=by simp [jA,S.all,S.new]
theorem FW (pm:List Int) (q:Nat) (h:128 * (q+1)≤pm.length):jA pm (q+1)=comp (jA pm q) (eX pm q):=by
 unfold jA eX
 have e:pm.take (128 * (q+1))=pm.take (128 * q) ++ (pm.drop (128 * q)).take 128:=by rw [Nat.mul_succ,List.take_add]
 rw [e,S.all_append,S.vJ _ _ ?_ ?_ ?_]
 ·rw [S.Ee _ _ S.Ok.new.n,acE,Nat.min_eq_left (by omega)]
  show (0+128 * q) % 128=0
  omega
 ·rw [(S.og _ _).2];simp [S.new]
 ·rw [acE,List.length_drop];omega
theorem Lu (pm:List Int) (q:Nat) (h:pm.length=128 * q):(S.new.all pm).h=jA pm q:=by
 unfold jA
 rw [acD (by omega)]
theorem Gg (pm:List Int) (q j:Nat) (hj:j < 128):(eX pm q).getD j 0=pm.getD (128 * q+j) 0:=by
 unfold eX
 simp only [abH,abV,hj,if_true,List.getElem?_drop]
theorem zk (n:Nat):∃ q,n+(tail n).length=128 * q:=by
 refine ⟨(n+(tail n).length) / 128,?_⟩
 have:(tail n).length=1+(2 * 128 - 16 - 1 - n % 128) % 128+16:=by simp [tail];omega
 rw [this]
 omega
theorem qX (n:Nat):∀ x∈tail n,0≤x∧x≤255:=by
 intro x hx
 simp only [tail,List.mem_append,List.mem_cons,List.mem_replicate,List.mem_map,List.mem_range] at hx
 rcases hx with ((rfl|⟨_,rfl⟩)|⟨_,rfl⟩)|⟨i,_,rfl⟩
 all_goals omega
end Go.Proofs.YthdgbgleklkaiaaGreatDoor.Hb
