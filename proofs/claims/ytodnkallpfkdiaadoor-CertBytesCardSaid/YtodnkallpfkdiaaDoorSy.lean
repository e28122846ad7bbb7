/- A region walked once an operation, told by predicates: of each operation what its value is, of each block what it holds. Condition: as each theorem says. -/
import Derived.Test.YtodnkallpfkdiaaDoorMa
namespace Go.Proofs.YtodnkallpfkdiaaDoor
open Go.RowKit
abbrev OP:=Obj→Prop
/-- What an operation leaves: what its value is, the block that it makes. -/
structure Sp where
 val:Value→Prop
 obj:Value→Option (Nat×OP)
/-- Each named block holds what is said of it, none is named twice. -/
structure Holds (T:Nat→Prop) (w u:World) (L:Nat→Option (Nat×OP)):Prop where
 mem:∀ i g p,L i=some (g,p)→(∃ o,u.heap[g]? = some o∧p o)∧(T g∨w.heap.size≤g)
 inj:∀ i j g p q,L i=some (g,p)→L j=some (g,q)→i=j
 keep:Kept T w u
theorem Holds.lt {T:Nat→Prop} {w u:World} {L:Nat→Option (Nat×OP)} (h:Holds T w u L) {i g:Nat} {p:OP} (hi:L i=some (g,p)):g < u.heap.size:=let ⟨⟨_,ho,_⟩,_⟩:=h.mem i g p hi;blk_lt ho
theorem Holds.below {T:Nat→Prop} {w u u':World} {L:Nat→Option (Nat×OP)} (h:Holds T w u L) (b:Below u.heap.size u u'):Holds T w u' L :=
 ⟨fun i g p hi=>let ⟨⟨o,ho,hp⟩,hT⟩:=h.mem i g p hi;⟨⟨o,Below.blk b ho (blk_lt ho),hp⟩,hT⟩,h.inj,h.keep.trans (Kept.of_below b)⟩
theorem Holds.drew {T:Nat→Prop} {w u:World} {L:Nat→Option (Nat×OP)} (h:Holds T w u L):Holds T w u.drew L:=⟨h.mem,h.inj,h.keep.drew⟩
theorem Holds.drewN {T:Nat→Prop} {w u:World} {L:Nat→Option (Nat×OP)} (h:Holds T w u L) (n:Nat):Holds T w (u.drewN n) L:=⟨h.mem,h.inj,h.keep.drewN n⟩
theorem Holds.new {T:Nat→Prop} {w u u':World} {L:Nat→Option (Nat×OP)} (h:Holds T w u L) (κ:Nat) {g:Nat} {p:OP} {o:Obj} (b:Below u.heap.size u u') (hg:u.heap.size≤g) (ho:u'.heap[g]? = some o) (hp:p o) :
  Holds T w u' (fun i=>if i=κ then some (g,p) else L i):=by
 have h':=h.below b
 refine ⟨fun i g' p' hi=>?_,fun i j g' p' q' hi hj=>?_,h'.keep⟩
 ·by_cases e:i=κ
  ·rw [if_pos e] at hi
   cases hi
   exact ⟨⟨o,ho,hp⟩, .inr (Nat.le_trans h.keep.size hg)⟩
  ·rw [if_neg e] at hi
   exact h'.mem i g' p' hi
 ·by_cases e:i=κ <;> by_cases e':j=κ
  ·rw [e,e']
  ·rw [if_pos e] at hi
   rw [if_neg e'] at hj
   cases hi
   exact absurd (h.lt hj) (by omega)
  ·rw [if_neg e] at hi
   rw [if_pos e'] at hj
   cases hj
   exact absurd (h.lt hi) (by omega)
  ·rw [if_neg e] at hi
   rw [if_neg e'] at hj
   exact h.inj i j g' p' q' hi hj
theorem Holds.put {T:Nat→Prop} {w u u':World} {L:Nat→Option (Nat×OP)} (h:Holds T w u L) (κ:Nat) {g:Nat} {p q:OP} {o:Obj} (hk:L κ=some (g,p)) (k:Kept (· = g) u u') (ho:u'.heap[g]? = some o) (hq:q o) :
  Holds T w u' (fun i=>if i=κ then some (g,q) else L i):=by
 refine ⟨fun i g' p' hi=>?_,fun i j g' p' q' hi hj=>?_,h.keep.trans_new k ?_⟩
 ·by_cases e:i=κ
  ·rw [if_pos e] at hi
   cases hi
   exact ⟨⟨o,ho,hq⟩,(h.mem κ g p hk).2⟩
  ·rw [if_neg e] at hi
   obtain ⟨⟨o',ho',hp'⟩,hT⟩:=h.mem i g' p' hi
   exact ⟨⟨o',k.blk ho' (fun eg=>e (h.inj i κ g' p' p hi (eg▸hk))),hp'⟩,hT⟩
 ·have un:∀ m r,(if m=κ then some (g,q) else L m)=some (g',r)→∃ r',L m=some (g',r'):=by
   intro m r hm
   by_cases e:m=κ
   ·rw [if_pos e] at hm
    cases hm
    exact ⟨p,e▸hk⟩
   ·rw [if_neg e] at hm
    exact ⟨_,hm⟩
  obtain ⟨r1,h1⟩:=un i p' hi
  obtain ⟨r2,h2⟩:=un j q' hj
  exact h.inj i j g' r1 r2 h1 h2
 ·rintro i hi rfl
  rcases (h.mem κ i p hk).2 with hT|hw
  ·exact hT
  ·exact absurd hi (by omega)
/-! ### Which operations come ahead of which -/
inductive Ahead (l:List Oper):Nat→Nat→Prop
 | one {i j:Nat}:waitsOn l i j=true→Ahead l i j
 | more {i j k:Nat}:waitsOn l i j=true→Ahead l j k→Ahead l i k
theorem Ahead.some {l:List Oper} {f:Fill} (hc:Closed l f) {i j:Nat} (h:Ahead l i j):(f i).isSome=true→(f j).isSome=true:=by
 induction h with
 | one hw=>exact fun hi=>hc.up _ _ hw hi
 | more hw _ ih=>exact fun hi=>ih (hc.up _ _ hw hi)
theorem Ahead.up {l:List Oper} {f:Fill} (hc:Closed l f) {i j:Nat} (hu:∀ j,waitsOn l i j=true→(f j).isSome=true) (h:Ahead l i j):(f j).isSome=true:=by
 cases h with
 | one hw=>exact hu _ hw
 | more hw h=>exact h.some hc (hu _ hw)
theorem Ahead.down {l:List Oper} {f:Fill} (hc:Closed l f) {i j:Nat} (h:Ahead l i j) (hj:f j=none):f i=none:=by
 cases hi:f i with
 | none=>rfl
 | some v=>have:=h.some hc (by rw [hi];rfl);rw [hj] at this;cases this
def mask (acc:List Nat) (es:List Edge):Nat:=es.foldl (fun s e=>if Region.binds .any e=true then s ||| 2 ^ e.on ||| acc.getD e.on 0 else s) 0
def anc (l:List Oper):List Nat:=l.foldl (fun acc o=>acc ++ [mask acc o.after.toList]) []
theorem mask_bit (acc:List Nat) (j:Nat):∀ (es:List Edge) (s:Nat),(es.foldl (fun s e=>if Region.binds .any e=true then s ||| 2 ^ e.on ||| acc.getD e.on 0 else s) s).testBit j=true →
  s.testBit j=true∨∃ e∈es,Region.binds .any e=true∧(e.on=j∨(acc.getD e.on 0).testBit j=true)
 | [],s,h => .inl h
 | e :: es,s,h=>by
  rw [List.foldl_cons] at h
  rcases mask_bit acc j es _ h with h1|⟨e',he',h2⟩
  ·split at h1
   ·rename_i hb
    rw [Nat.testBit_or,Nat.testBit_or,Bool.or_eq_true,Bool.or_eq_true] at h1
    rcases h1 with (h1|h1)|h1
    ·exact .inl h1
    ·refine .inr ⟨e,List.mem_cons_self .., hb, .inl ?_⟩
     rw [Nat.testBit_two_pow] at h1
     simpa using h1
    ·exact .inr ⟨e,List.mem_cons_self .., hb, .inr h1⟩
   ·exact .inl h1
  ·exact .inr ⟨e',List.mem_cons_of_mem _ he',h2⟩
theorem anc_ahead {l:List Oper}:∀ (rest done:List Oper) (acc:List Nat),l=done ++ rest→acc.length=done.length→(∀ i j,(acc.getD i 0).testBit j=true→Ahead l i j) →
  ∀ i j,((rest.foldl (fun acc o=>acc ++ [mask acc o.after.toList]) acc).getD i 0).testBit j=true→Ahead l i j
 | [],_,_,_,_,h=>h
 | o :: rest,done,acc,hl,hn,h=>by
  rw [List.foldl_cons]
  refine anc_ahead rest (done ++ [o]) _ (by simp [hl]) (by simp [hn]) fun i j hij=>?_
  by_cases hlt:i < acc.length
  ·refine h i j ?_
   rwa [List.getD,List.getElem?_append_left hlt,← List.getD] at hij
  ·by_cases he:i=acc.length
   ·subst he
    rw [List.getD,List.getElem?_append_right (Nat.le_refl _),Nat.sub_self] at hij
    simp only [List.getElem?_cons_zero,Option.getD_some] at hij
    have ho:l[acc.length]? = some o:=by rw [hl,hn,List.getElem?_append_right (Nat.le_refl _),Nat.sub_self];rfl
    rcases mask_bit acc j _ 0 hij with h0|⟨e,he,hb,h1⟩
    ·simp at h0
    ·have hw:waitsOn l acc.length e.on=true:=by
      unfold waitsOn
      rw [ho]
      exact Array.any_eq_true'.2 ⟨e,by simpa using he,by simp [hb]⟩
     rcases h1 with h1|h1
     ·exact h1 ▸ .one hw
     ·exact .more hw (h _ _ h1)
   ·rw [List.getD,List.getElem?_eq_none (by simp;omega)] at hij
    simp at hij
/-- Is k ahead of i? Behind it? -/
def know (l:List Oper) (i k:Nat):Option Bool:=if ((anc l).getD i 0).testBit k=true then some true else if ((anc l).getD k 0).testBit i=true then some false else none
theorem know_is {l:List Oper} {f:Fill} (hc:Closed l f) {i k:Nat} (hi:f i=none) (hu:∀ j,waitsOn l i j=true→(f j).isSome=true) {b:Bool} (h:know l i k=some b):(f k).isSome=b:=by
 have A:∀ i j,((anc l).getD i 0).testBit j=true→Ahead l i j:=anc_ahead l [] [] rfl rfl (fun i j h=>by simp at h)
 unfold know at h
 split at h
 ·rename_i h1
  cases h
  exact (A _ _ h1).up hc hu
 ·split at h
  ·rename_i h1
   cases h
   rw [(A _ _ h1).down hc hi]
   rfl
  ·cases h
/-! ### What each block holds while some operations have come up -/
abbrev Put:=Nat×Nat×OP
def baseAt (old:List (Nat×OP)) (sp:List Sp) (f:Fill) (κ:Nat):Option (Nat×OP) :=
 if κ < old.length then old[κ]? else match sp[κ - old.length]?, f (κ - old.length) with|some s,some v=>s.obj v|_,_=>none
def putOn (pt:List Put) (f:Fill) (κ:Nat) (p:OP):OP:=pt.foldl (fun p e=>if e.2.1=κ∧(f e.1).isSome=true then e.2.2 else p) p
def holdAt (old:List (Nat×OP)) (sp:List Sp) (pt:List Put) (f:Fill) (κ:Nat):Option (Nat×OP):=(baseAt old sp f κ).map fun x=>(x.1,putOn pt f κ x.2)
def knPut (kn:Nat→Option Bool):List Put→Nat→OP→Option OP
 | [],_,p=>some p
 | (k,κ',q) :: r,κ,p=>if κ'=κ then (match kn k with|some true=>knPut kn r κ q|some false=>knPut kn r κ p|none=>none) else knPut kn r κ p
theorem knPut_is {kn:Nat→Option Bool} {f:Fill} (hk:∀ k b,kn k=some b→(f k).isSome=b):∀ (pt:List Put) (κ:Nat) (p q:OP),knPut kn pt κ p=some q→putOn pt f κ p=q
 | [],_,_,_,h=>by cases h;rfl
 | (k,κ',q0) :: r,κ,p,q,h=>by
  unfold knPut at h
  show putOn r f κ (if κ'=κ∧(f k).isSome=true then q0 else p)=q
  by_cases e:κ'=κ
  ·rw [if_pos e] at h
   split at h
   ·rename_i h1
    rw [if_pos ⟨e,hk _ _ h1⟩]
    exact knPut_is hk r κ _ q h
   ·rename_i h1
    rw [if_neg (by rw [hk _ _ h1];simp)]
    exact knPut_is hk r κ _ q h
   ·cases h
  ·rw [if_neg e] at h
   rw [if_neg (fun h=>e h.1)]
   exact knPut_is hk r κ _ q h
def noPut (pt:List Put) (i:Nat):Bool:=pt.all fun e=>e.1 != i
theorem putOn_upd (pt:List Put) (f:Fill) (i:Nat) (v:Value) (h:noPut pt i=true) (κ:Nat):∀ p,putOn pt (f.upd i v) κ p=putOn pt f κ p:=by
 induction pt with
 | nil=>intro p;rfl
 | cons e r ih =>
  intro p
  simp only [noPut,List.all_cons,Bool.and_eq_true,bne_iff_ne] at h
  have h1:f.upd i v e.1=f e.1:=by simp only [Fill.upd];rw [if_neg h.1]
  show putOn r (f.upd i v) κ (if e.2.1=κ∧(f.upd i v e.1).isSome=true then e.2.2 else p)=putOn r f κ (if e.2.1=κ∧(f e.1).isSome=true then e.2.2 else p)
  rw [h1]
  exact ih h.2 _
theorem baseAt_upd (old:List (Nat×OP)) (sp:List Sp) (f:Fill) (i:Nat) (v:Value) (κ:Nat):baseAt old sp (f.upd i v) κ=if κ=old.length+i then (sp[i]?).bind (·.obj v) else baseAt old sp f κ:=by
 unfold baseAt
 by_cases e:κ=old.length+i
 ·rw [if_pos e,if_neg (by omega),show κ - old.length=i by omega]
  simp only [Fill.upd,if_pos]
  cases sp[i]? <;> rfl
 ·rw [if_neg e]
  split
  ·rfl
  ·have:f.upd i v (κ - old.length)=f (κ - old.length):=by simp only [Fill.upd];rw [if_neg (by omega)]
   rw [this]
theorem baseAt_none (old:List (Nat×OP)) (sp:List Sp) (f:Fill) (i:Nat) (h:f i=none):baseAt old sp f (old.length+i)=none:=by
 unfold baseAt
 rw [if_neg (by omega),show old.length+i - old.length=i by omega,h]
 split <;> simp_all
section
variable {old:List (Nat×OP)} {sp:List Sp} {pt:List Put} {f:Fill} {i:Nat} {s:Sp} {v:Value}
theorem holdAt_same (hs:sp[i]? = some s) (ho:s.obj v=none) (hf:f i=none) (hp:noPut pt i=true):holdAt old sp pt (f.upd i v)=holdAt old sp pt f:=by
 funext κ
 unfold holdAt
 rw [baseAt_upd]
 simp only [putOn_upd pt f i v hp]
 split
 ·rename_i e
  rw [e,baseAt_none _ _ _ _ hf,hs]
  simp [ho]
 ·rfl
theorem holdAt_new {g:Nat} {p:OP} (hs:sp[i]? = some s) (ho:s.obj v=some (g,p)) (hp:noPut pt i=true) (hn:∀ e∈pt,e.2.1=old.length+i→f e.1=none) :
  holdAt old sp pt (f.upd i v)=fun κ=>if κ=old.length+i then some (g,p) else holdAt old sp pt f κ:=by
 funext κ
 unfold holdAt
 rw [baseAt_upd]
 simp only [putOn_upd pt f i v hp]
 split
 ·rename_i e
  rw [hs]
  simp only [Option.bind_some,ho,Option.map_some,Option.some.injEq,Prod.mk.injEq,true_and]
  have:∀ (pt:List Put),(∀ e∈pt,e.2.1=old.length+i→f e.1=none)→∀ p,putOn pt f κ p=p:=by
   intro pt
   induction pt with
   | nil=>intro _ p;rfl
   | cons x r ih =>
    intro h p
    show putOn r f κ (if x.2.1=κ∧(f x.1).isSome=true then x.2.2 else p)=p
    rw [if_neg (fun hx=>by rw [h x (List.mem_cons_self ..) (hx.1.trans e)] at hx;exact absurd hx.2 (by simp))]
    exact ih (fun y hy=>h y (List.mem_cons_of_mem _ hy)) p
  exact this pt hn p
 ·rfl
def putChk (kn:Nat→Option Bool) (i κ:Nat):List Put→Option OP
 | []=>none
 | (k,κ',q) :: r=>if k=i then (if (κ' == κ && r.all fun e=>e.1 != i && (e.2.1 != κ || kn e.1 == some false))=true then some q else none) else putChk kn i κ r
theorem putChk_is {kn:Nat→Option Bool} (hk:∀ k b,kn k=some b→(f k).isSome=b) {κ:Nat}:∀ (pt:List Put) (q:OP),putChk kn i κ pt=some q →
  (∀ p,putOn pt (f.upd i v) κ p=q)∧(∀ κ',κ'≠κ→∀ p,putOn pt (f.upd i v) κ' p=putOn pt f κ' p)
 | [],_,h=>by cases h
 | (k,κ0,q0) :: r,q,h=>by
  unfold putChk at h
  by_cases e:k=i
  ·rw [if_pos e] at h
   subst e
   split at h
   ·rename_i h1
    cases h
    simp only [Bool.and_eq_true,beq_iff_eq,List.all_eq_true,bne_iff_ne,Bool.or_eq_true] at h1
    obtain ⟨rfl,h2⟩:=h1
    have hn:noPut r k=true:=by
     simp only [noPut,List.all_eq_true,bne_iff_ne]
     exact fun e he=>(h2 e he).1
    have hid:∀ (r:List Put),(∀ e∈r,e.1≠k∧(e.2.1≠κ0∨kn e.1=some false))→∀ p,putOn r f κ0 p=p:=by
     intro r
     induction r with
     | nil=>intro _ p;rfl
     | cons x r ih =>
      intro h p
      show putOn r f κ0 (if x.2.1=κ0∧(f x.1).isSome=true then x.2.2 else p)=p
      rw [if_neg (fun hx=>by
       rcases (h x (List.mem_cons_self ..)).2 with h3|h3
       ·exact h3 hx.1
       ·rw [hk _ _ h3] at hx;exact absurd hx.2 (by simp))]
      exact ih (fun y hy=>h y (List.mem_cons_of_mem _ hy)) p
    refine ⟨fun p=>?_,fun κ' hne p=>?_⟩
    ·show putOn r (f.upd k v) κ0 (if κ0=κ0∧(f.upd k v k).isSome=true then q0 else p)=q0
     rw [putOn_upd r f k v hn,if_pos ⟨rfl,by simp [Fill.upd]⟩]
     exact hid r h2 q0
    ·show putOn r (f.upd k v) κ' (if κ0=κ'∧(f.upd k v k).isSome=true then q0 else p)=putOn r f κ' (if κ0=κ'∧(f k).isSome=true then q0 else p)
     rw [putOn_upd r f k v hn,if_neg (fun h=>hne h.1.symm),if_neg (fun h=>hne h.1.symm)]
   ·cases h
  ·rw [if_neg e] at h
   obtain ⟨h1,h2⟩:=putChk_is hk r q h
   have h3:f.upd i v k=f k:=by simp only [Fill.upd];rw [if_neg e]
   refine ⟨fun p=>h1 _,fun κ' hne p=>?_⟩
   show putOn r (f.upd i v) κ' (if κ0=κ'∧(f.upd i v k).isSome=true then q0 else p)=_
   rw [h3]
   exact h2 κ' hne _
theorem holdAt_put {kn:Nat→Option Bool} (hk:∀ k b,kn k=some b→(f k).isSome=b) {κ g:Nat} {p q:OP} (hs:sp[i]? = some s) (ho:s.obj v=none) (hf:f i=none) (hp:putChk kn i κ pt=some q) (hh:holdAt old sp pt f κ=some (g,p)) :
  holdAt old sp pt (f.upd i v)=fun κ'=>if κ'=κ then some (g,q) else holdAt old sp pt f κ':=by
 obtain ⟨h1,h2⟩:=putChk_is (v:=v) hk pt q hp
 have hb:∀ κ',baseAt old sp (f.upd i v) κ'=baseAt old sp f κ':=by
  intro κ'
  rw [baseAt_upd]
  split
  ·rename_i e
   rw [e,baseAt_none _ _ _ _ hf,hs]
   simp [ho]
  ·rfl
 funext κ'
 by_cases e:κ'=κ
 ·subst e
  rw [if_pos rfl]
  unfold holdAt at hh ⊢
  rw [hb]
  cases hx:baseAt old sp f κ' with
  | none=>rw [hx] at hh;cases hh
  | some x =>
   rw [hx] at hh
   simp only [Option.map_some,Option.some.injEq,Prod.mk.injEq] at hh ⊢
   exact ⟨hh.1,h1 _⟩
 ·rw [if_neg e]
  unfold holdAt
  rw [hb]
  simp only [h2 κ' e]
end
end Go.Proofs.YtodnkallpfkdiaaDoor
namespace Go.Proofs.YtodnkallpfkdiaaDoor
open Go.RowKit
set_option linter.unusedSimpArgs false
set_option linter.unusedVariables false
/-- A value in symbols: told, a pointer (a slice) into the block that operation j has made, what operation j has left. -/
inductive SV where
 | c (v:Value)
 | q (j off:Nat)
 | sl (j off n m:Nat)
 | r (j:Nat)
def blkOf:Option Value→Nat
 | some (.pointer (some a))=>a.block
 | some (.slice (some a) _ _)=>a.block
 | _=>0
def den (f:Fill):SV→Value
 | .c v=>v
 | .q j off => .pointer (some ⟨blkOf (f j),off,none⟩)
 | .sl j off n m => .slice (some ⟨blkOf (f j),off,none⟩) n m
 | .r j=>(f j).getD undef
def SV.ref:SV→Option Nat
 | .c _=>none
 | .q j _=>some j
 | .sl j _ _ _=>some j
 | .r j=>some j
/-- What is claimed of an operation's value. -/
inductive CL where
 | v (x:SV)
 | soft (S:Value→Prop)
 | new
 | mk (n:Nat)
 | w (S:World→Value→Prop) (h:∀ u u' v,Below u.heap.size u u'→S u v→S u' v)
def CL.notW:CL→Bool
 | .w _ _=>false
 | _=>true
theorem CL.no {c:CL} (h:c.notW=true) {X:(World→Value→Prop)→Prop}:∀ S h',c = .w S h'→X S:=fun S h' e=>by rw [e] at h;cases h
theorem putChk_no {kn:Nat→Option Bool} {i κ:Nat}:∀ {pt:List Put} {q:OP},putChk kn i κ pt=some q→noPut pt i=false
 | [],_,h=>by cases h
 | e :: r,q,h=>by
  unfold putChk at h
  show (e.1 != i && noPut r i)=false
  by_cases c:e.1=i
  ·simp [c]
  ·rw [if_neg c] at h
   rw [putChk_no h,Bool.and_false]
def CL.ok (f:Fill) (v:Value):CL→Prop
 | .v x=>v=den f x
 | .soft S=>S v
 | .new=>∃ g:Nat,v = .pointer (some ⟨g,0,none⟩)
 | .mk n=>∃ g:Nat,v = .slice (some ⟨g,0,none⟩) n n
 | .w _ _=>True
def CL.ref:CL→Option Nat
 | .v x=>x.ref
 | _=>none
/-- An operation's value, seen by the later ones. -/
def CL.sv (j:Nat):CL→SV
 | .v x=>x
 | .soft _ => .r j
 | .new => .q j 0
 | .mk n => .sl j 0 n n
 | .w _ _ => .r j
def CL.isNew:CL→Bool
 | .new=>true
 | .mk _=>true
 | _=>false
structure Sy where
 cl:CL
 obj:Option OP:=none
def ptrObj (p:OP) (v:Value):Option (Nat×OP):=match v with
 | .pointer (some a)=>some (a.block,p)
 | .slice (some a) _ _=>some (a.block,p)
 | _=>none
def Sy.sp (s:Sy):Sp:=⟨fun _=>True,fun v=>match s.obj with|some p=>ptrObj p v|none=>none⟩
def wfB (l:List Oper) (sy:List Sy):Bool:=(List.range sy.length).all fun i=>match (sy[i]?).bind (·.cl.ref) with
 | some j=>((anc l).getD i 0).testBit j
 | none=>true
/-- What holds while the operations of f have come up. -/
structure SJ (T:Nat→Prop) (w:World) (old:List (Nat×OP)) (sy:List Sy) (pt:List Put) (f:Fill) (u:World):Prop where
 val:∀ i v,f i=some v→∃ s,sy[i]? = some s∧s.cl.ok f v
 mem:Holds T w u (holdAt old (sy.map Sy.sp) pt f)
 wld:∀ i v s S h,f i=some v→sy[i]? = some s→s.cl = .w S h→(∀ e∈pt,f e.1=none)→S u v
theorem anc_is {l:List Oper} {i j:Nat} (h:((anc l).getD i 0).testBit j=true):Ahead l i j:=anc_ahead l [] [] rfl rfl (fun i j h=>by simp at h) i j h
theorem den_upd {f:Fill} {i:Nat} {v:Value} {x:SV} (h:x.ref≠some i):den (f.upd i v) x=den f x:=by
 cases x with
 | c v=>rfl
 | q j off=>simp only [den,Fill.upd];rw [if_neg (fun e=>h (by rw [SV.ref,e]))]
 | sl j off n m=>simp only [den,Fill.upd];rw [if_neg (fun e=>h (by rw [SV.ref,e]))]
 | r j=>simp only [den,Fill.upd];rw [if_neg (fun e=>h (by rw [SV.ref,e]))]
theorem ok_upd {f:Fill} {i:Nat} {v v':Value} {c:CL} (h:c.ref≠some i):c.ok (f.upd i v) v'↔c.ok f v':=by
 cases c with
 | v x=>simp only [CL.ok];rw [den_upd (fun e=>h (by rw [CL.ref,e]))]
 | soft S=>exact Iff.rfl
 | new=>exact Iff.rfl
 | mk n=>exact Iff.rfl
 | w S h=>exact Iff.rfl
theorem wf_ref {l:List Oper} {sy:List Sy} (h:wfB l sy=true) {i j:Nat} {s:Sy} (hs:sy[i]? = some s) (hr:s.cl.ref=some j):Ahead l i j:=by
 have h1:=List.all_eq_true.1 h i (List.mem_range.2 (List.getElem?_eq_some_iff.1 hs).1)
 rw [hs] at h1
 simp only [Option.bind_some,hr] at h1
 exact anc_is h1
section
variable {P:Program} {Q:Exit→Act→World→Prop} {T:Nat→Prop} {w:World} {l:List Oper} {old:List (Nat×OP)} {sy:List Sy} {pt:List Put} {a:Act}
/-- One operation comes up. -/
theorem SJ.upd {f:Fill} {u u':World} (hwf:wfB l sy=true) (h:SJ T w old sy pt f u) (hc:Closed l f) {i:Nat} (hi:f i=none) (hu:∀ j,waitsOn l i j=true→(f j).isSome=true) {s:Sy} (hs:sy[i]? = some s) {v:Value} (hv:s.cl.ok f v)
  (hm:Holds T w u' (holdAt old (sy.map Sy.sp) pt (f.upd i v))) (hb:noPut pt i=true→Below u.heap.size u u') (hw:∀ S h,s.cl = .w S h→S u' v):SJ T w old sy pt (f.upd i v) u':=by
 refine ⟨fun k v' hk=>?_,hm,fun k v' s' S h' hk hs' hc' hno=>?_⟩
 rotate_left
 ·by_cases e:k=i
  ·subst e
   simp only [Fill.upd,if_pos,Option.some.injEq] at hk
   subst hk
   rw [hs] at hs'
   cases hs'
   exact hw S h' hc'
  ·simp only [Fill.upd] at hk
   rw [if_neg e] at hk
   have hne:∀ x∈pt,x.1≠i∧f x.1=none:=fun x hx=>by
    have h1:=hno x hx
    unfold Fill.upd at h1
    by_cases c:x.1=i
    ·rw [if_pos c] at h1;cases h1
    ·rw [if_neg c] at h1;exact ⟨c,h1⟩
   exact h' _ _ _ (hb (by simp only [noPut,List.all_eq_true,bne_iff_ne];exact fun x hx=>(hne x hx).1)) (h.wld k v' s' S h' hk hs' hc' fun x hx=>(hne x hx).2)
 by_cases e:k=i
 ·subst e
  simp only [Fill.upd,if_pos,Option.some.injEq] at hk
  subst hk
  refine ⟨s,hs,(ok_upd (fun hr=>?_)).2 hv⟩
  have:=(wf_ref hwf hs hr).up hc hu
  rw [hi] at this
  cases this
 ·simp only [Fill.upd] at hk
  rw [if_neg e] at hk
  obtain ⟨s',hs',hv'⟩:=h.val k v' hk
  refine ⟨s',hs',(ok_upd (fun hr=>?_)).2 hv'⟩
  have:=(wf_ref hwf hs' hr).some hc (by rw [hk];rfl)
  rw [hi] at this
  cases this
/-! ### What an operation reads -/
def dstIx (l:List Oper) (s:Tmp):Option Nat:=l.findIdx? fun o=>o.dst == some s
def sev (l:List Oper) (sy:List Sy) (a:Act) (f:Fill):Operand→Value
 | .tmp s=>match dstIx l s with
  | some j=>match sy[j]? with
   | some y=>den f (y.cl.sv j)
   | none=>undef
  | none=>a.tmps.getD s undef
 | x=>a.eval x
def readB (l:List Oper) (i:Nat) (x:Operand):Bool:=match x with
 | .tmp s=>match dstIx l s with
  | some j=>((anc l).getD i 0).testBit j
  | none=>true
 | _=>true
theorem sev_is {f:Fill} {b:Act} {u:World} (h:SJ T w old sy pt f u) (hc:Closed l f) {i:Nat} (hu:∀ j,waitsOn l i j=true→(f j).isSome=true) (hs:Sees l f a b) {x:Operand} (hx:readB l i x=true):b.eval x=sev l sy a f x:=by
 cases x with
 | tmp s =>
  simp only [readB] at hx
  simp only [sev]
  cases hd:dstIx l s with
  | none =>
   rw [hd] at hx
   simp only
   refine hs.old s ?_
   rw [List.all_eq_true]
   intro o ho
   have:=List.findIdx?_eq_none_iff.1 hd o ho
   simpa using this
  | some j =>
   rw [hd] at hx
   simp only at hx ⊢
   obtain ⟨v,hv⟩:=sE ((anc_is hx).up hc hu)
   obtain ⟨s',hs',hok⟩:=h.val j v hv
   rw [hs']
   simp only
   obtain ⟨hlt,h1, -⟩:=List.findIdx?_eq_some_iff_getElem.1 hd
   have e:b.eval (.tmp s)=v:=hs.val j s (by rw [List.getElem?_eq_getElem hlt];simpa using h1) hv
   rw [e]
   cases hcl:s'.cl with
   | v y=>rw [hcl] at hok;exact hok
   | soft S=>simp [CL.sv,den,hv]
   | new=>rw [hcl] at hok;obtain ⟨g,rfl⟩:=hok;simp [CL.sv,den,hv,blkOf]
   | mk n=>rw [hcl] at hok;obtain ⟨g,rfl⟩:=hok;simp [CL.sv,den,hv,blkOf]
   | w S h=>simp [CL.sv,den,hv]
 | const v=>rfl
 | global g=>rfl
 | func g=>rfl
/-! ### Blocks -/
def adr (old:List (Nat×OP)) (f:Fill) (κ:Nat):Nat:=if κ < old.length then (old.getD κ (0,fun _=>False)).1 else blkOf (f (κ - old.length))
def bp (old:List (Nat×OP)) (sy:List Sy) (κ:Nat):Option OP:=if κ < old.length then (old[κ]?).map (·.2) else (sy[κ - old.length]?).bind (·.obj)
/-- What block κ holds when operation i comes up. -/
def cont (l:List Oper) (old:List (Nat×OP)) (sy:List Sy) (pt:List Put) (i κ:Nat):Option OP:=(bp old sy κ).bind fun p=>knPut (fun k=>if k=i then some false else know l i k) pt κ p
def liveB (l:List Oper) (old:List (Nat×OP)) (sy:List Sy) (i κ:Nat):Bool:=decide (κ < old.length) || (((anc l).getD i 0).testBit (κ - old.length) && ((sy[κ - old.length]?).map fun s=>s.cl.isNew).getD false)
theorem hold_cont {f:Fill} {u:World} (h:SJ T w old sy pt f u) (hc:Closed l f) {i:Nat} (hi:f i=none) (hu:∀ j,waitsOn l i j=true→(f j).isSome=true) {κ:Nat} {p:OP} (hp:cont l old sy pt i κ=some p) (hl:liveB l old sy i κ=true) :
  holdAt old (sy.map Sy.sp) pt f κ=some (adr old f κ,p):=by
 obtain ⟨p0,hb,hk⟩:=Option.bind_eq_some_iff.1 hp
 have hput:putOn pt f κ p0=p:=by
  refine knPut_is (fun k b hk=>?_) pt κ p0 p hk
  by_cases e:k=i
  ·rw [if_pos e] at hk;cases hk;rw [e,hi];rfl
  ·rw [if_neg e] at hk;exact know_is hc hi hu hk
 simp only [liveB,Bool.or_eq_true,decide_eq_true_eq,Bool.and_eq_true] at hl
 unfold bp at hb
 unfold holdAt baseAt adr
 by_cases hlt:κ < old.length
 ·rw [if_pos hlt] at hb ⊢
  rw [if_pos hlt]
  rw [List.getElem?_eq_getElem hlt] at hb ⊢
  simp only [Option.map_some,Option.some.injEq] at hb ⊢
  rw [List.getD_eq_getElem?_getD,List.getElem?_eq_getElem hlt,Option.getD_some,hb,hput]
 ·rw [if_neg hlt] at hb ⊢
  rw [if_neg hlt]
  obtain ⟨ha,hcl⟩:=hl.resolve_left hlt
  obtain ⟨s,hs,ho⟩:=Option.bind_eq_some_iff.1 hb
  obtain ⟨v,hv⟩:=sE ((anc_is ha).up hc hu)
  obtain ⟨s',hs',hok⟩:=h.val _ v hv
  rw [hs] at hs'
  cases hs'
  rw [hv,List.getElem?_map,hs]
  have hcl0:=hcl
  simp only [Option.map_some,Sy.sp,ho]
  cases hx:s.cl with
  | v x=>simp [hs,hx,CL.isNew] at hcl0
  | soft S=>simp [hs,hx,CL.isNew] at hcl0
  | w S h=>simp [hs,hx,CL.isNew] at hcl0
  | new =>
   rw [hx] at hok
   obtain ⟨g,rfl⟩:=hok
   simp only [ptrObj,Option.map_some,blkOf,hput]
  | mk n =>
   rw [hx] at hok
   obtain ⟨g,rfl⟩:=hok
   simp only [ptrObj,Option.map_some,blkOf,hput]
/-! ### Steps -/
abbrev SyStep (P:Program) (Q:Exit→Act→World→Prop) (l:List Oper) (T:Nat→Prop) (w:World) (old:List (Nat×OP)) (sy:List Sy) (pt:List Put) (a:Act) (i:Nat) (o:Oper):Prop:=LinStepG P Q l (fun f u=>SJ T w old sy pt f u) a i o
/-- No block is made or turned. -/
def quietB (sy:List Sy) (pt:List Put) (i:Nat):Bool:=(match (sy[i]?).map (·.obj) with|some none=>true|_=>false) && noPut pt i
theorem hold_same {f:Fill} {i:Nat} (hi:f i=none) (hq:quietB sy pt i=true) (v:Value):holdAt old (sy.map Sy.sp) pt (f.upd i v)=holdAt old (sy.map Sy.sp) pt f:=by
 simp only [quietB,Bool.and_eq_true] at hq
 obtain ⟨h1,h2⟩:=hq
 cases hs:sy[i]? with
 | none=>rw [hs] at h1;simp at h1
 | some s =>
  rw [hs] at h1
  have ho:s.obj=none:=by
   cases hx:s.obj with
   | none=>rfl
   | some p=>rw [Option.map_some,hx] at h1;simp at h1
  exact holdAt_same (s:=s.sp) (by rw [List.getElem?_map,hs];rfl) (by simp [Sy.sp,ho]) hi h2
theorem wanted_none {o:Oper} {b:Act} (hg:o.guard=none):Region.wanted o (yielded l.toArray b.tmps)=true:=by simp [Region.wanted,hg]
/-- A value, whatever the operation: no memory turns. -/
theorem sy_val {i:Nat} {o:Oper} {s:Sy} (hwf:wfB l sy=true) (hg:o.guard=none) (hs:sy[i]? = some s) (hq:quietB sy pt i=true) (hnw:s.cl.notW=true)
  (h:∀ (f:Fill) (b:Act) (u:World),SJ T w old sy pt f u→Closed l f→f i=none→(∀ j,waitsOn l i j=true→(f j).isSome=true)→Sees l f a b→∃ v,(execOp b.eval o).run P u = .ok (.value v) u∧s.cl.ok f v):SyStep P Q l T w old sy pt a i o:=by
 intro f b u K hJ hf hc hu hsee hK
 rw [if_pos (wanted_none hg)]
 obtain ⟨v,hrun,hok⟩:=h f b u hJ hc hf hu hsee
 unfold Oper.wp
 rw [hrun]
 refine hK v u (hJ.upd hwf hc hf hu hs hok ?_ (fun _=>Below.refl _ _) (CL.no hnw))
 rw [hold_same hf hq]
 exact hJ.mem
def easy:Op→Bool
 | .move _ | .assign _ | .fieldAddr _ _ _ | .indexAddr _ _ _ | .extract _ _ | .build _ _ | .binOp _ _ _ _ _ | .unOp _ _ _ | .convert _ _ _ | .slice _ _ _ _ _ | .index _ _ _ | .field _ _ _ | .sliceToArrayPointer _ _ | .pick _ _ _=>true
 | _=>false
theorem execOp_congr {ρ ρ':Operand→Value} {o:Oper} (he:easy o.op=true) (h:∀ x∈o.op.operands.toList,ρ x=ρ' x):execOp ρ o=execOp ρ' o:=by
 unfold execOp
 cases hop:o.op with
 | move x=>rw [hop] at h;simp only [h x (by simp [Op.operands])]
 | assign x=>rw [hop] at h;simp only [h x (by simp [Op.operands])]
 | fieldAddr t x n=>rw [hop] at h;simp only [h x (by simp [Op.operands])]
 | indexAddr t x y=>rw [hop] at h;simp only [h x (by simp [Op.operands]),h y (by simp [Op.operands])]
 | extract x n=>rw [hop] at h;simp only [h x (by simp [Op.operands])]
 | binOp k t x y t2=>rw [hop] at h;simp only [h x (by simp [Op.operands]),h y (by simp [Op.operands])]
 | unOp k t x=>rw [hop] at h;simp only [h x (by simp [Op.operands])]
 | convert t t2 x=>rw [hop] at h;simp only [h x (by simp [Op.operands])]
 | index t x y=>rw [hop] at h;simp only [h x (by simp [Op.operands]),h y (by simp [Op.operands])]
 | field t x n=>rw [hop] at h;simp only [h x (by simp [Op.operands])]
 | sliceToArrayPointer t x=>rw [hop] at h;simp only [h x (by simp [Op.operands])]
 | pick x y z=>rw [hop] at h;simp only [h x (by simp [Op.operands]),h y (by simp [Op.operands]),h z (by simp [Op.operands])]
 | build t ps =>
  rw [hop] at h
  have e:(ps.map fun (p:Nat×Operand)=>(p.1,ρ p.2))=ps.map fun (p:Nat×Operand)=>(p.1,ρ' p.2):=by
   apply Array.map_congr_left
   intro p hp
   rw [h p.2 (by simp only [Op.operands];exact List.mem_map.2 ⟨p,by simpa using hp,rfl⟩)]
  simp only [e]
 | slice t x lo hi mx =>
  rw [hop] at h
  have e1:lo.map ρ=lo.map ρ':=by cases lo with|none=>rfl|some y=>simp only [Option.map_some,h y (by simp [Op.operands])]
  have e2:hi.map ρ=hi.map ρ':=by cases hi with|none=>rfl|some y=>simp only [Option.map_some,h y (by simp [Op.operands])]
  have e3:mx.map ρ=mx.map ρ':=by cases mx with|none=>rfl|some y=>simp only [Option.map_some,h y (by simp [Op.operands])]
  simp only [h x (by simp [Op.operands]),e1,e2,e3]
 | _=>simp [hop,easy] at he
theorem sy_pure {i:Nat} {o:Oper} {s:Sy} {x:SV} (hwf:wfB l sy=true) (hg:o.guard=none) (hs:sy[i]? = some s) (hq:quietB sy pt i=true) (hcl:s.cl = .v x) (he:(easy o.op && o.op.operands.toList.all (readB l i))=true)
  (h:∀ (f:Fill) (u:World),(execOp (sev l sy a f) o).run P u = .ok (.value (den f x)) u):SyStep P Q l T w old sy pt a i o:=by
 simp only [Bool.and_eq_true,List.all_eq_true] at he
 refine sy_val hwf hg hs hq (by rw [hcl];rfl) fun f b u hJ hc hf hu hsee=>⟨den f x,?_,by rw [hcl];rfl⟩
 rw [execOp_congr he.1 (fun y hy=>sev_is hJ hc hu hsee (he.2 y hy))]
 exact h f u
/-- A value of which a relation alone is known, out of another such. -/
theorem sy_soft {i j:Nat} {o:Oper} {s sj:Sy} {S S':Value→Prop} (hwf:wfB l sy=true) (hg:o.guard=none) (hs:sy[i]? = some s) (hq:quietB sy pt i=true) (hcl:s.cl = .soft S) (he:(easy o.op && o.op.operands.toList.all (readB l i))=true)
  (hj:((anc l).getD i 0).testBit j=true) (hsj:sy[j]? = some sj) (hclj:sj.cl = .soft S')
  (h:∀ (v:Value),S' v→∃ v',(∀ (f:Fill) (u:World),f j=some v→(execOp (sev l sy a f) o).run P u = .ok (.value v') u)∧S v'):SyStep P Q l T w old sy pt a i o:=by
 simp only [Bool.and_eq_true,List.all_eq_true] at he
 refine sy_val hwf hg hs hq (by rw [hcl];rfl) fun f b u hJ hc hf hu hsee=>?_
 obtain ⟨v,hv⟩:=sE ((anc_is hj).up hc hu)
 obtain ⟨s',hs',hok⟩:=hJ.val j v hv
 rw [hsj] at hs'
 cases hs'
 rw [hclj] at hok
 obtain ⟨v',hrun,hS⟩:=h v hok
 refine ⟨v',?_,by rw [hcl];exact hS⟩
 rw [execOp_congr he.1 (fun y hy=>sev_is hJ hc hu hsee (he.2 y hy))]
 exact hrun f u hv
/-- A call of which nothing in memory turns but what is new. -/
theorem sy_callJ {i:Nat} {o:Oper} {s:Sy} (F:FuncId) (xs:List Operand) (ts:Array TypeId) (hwf:wfB l sy=true) (hg:o.guard=none) (hs:sy[i]? = some s) (hq:quietB sy pt i=true)
  (ho:o.op = .call { callee := .value (.func F),args:=xs.toArray,argTypes:=ts }) (hr:xs.all (readB l i)=true) (hF:∀ (args:Array Value) (u:World),(callFunc F args).run P u = .ok (.enter F args) u)
  (h:∀ (f:Fill) (u:World),SJ T w old sy pt f u→(∀ j,((anc l).getD i 0).testBit j=true→∃ v s',f j=some v∧sy[j]? = some s'∧s'.cl.ok f v)→Calls P F (xs.map (sev l sy a f)).toArray u (fun e w'=>∃ v,e = .returned v∧s.cl.ok f v∧Below u.heap.size u w'∧∀ S h,s.cl = .w S h→S w' v)):SyStep P Q l T w old sy pt a i o:=by
 intro f b u K hJ hf hc hu hsee hK
 have hv:xs.map b.eval=xs.map (sev l sy a f):=List.map_congr_left fun y hy=>sev_is hJ hc hu hsee (List.all_eq_true.1 hr y hy)
 rw [if_pos (wanted_none hg)]
 have h0:=lin_call (P:=P) (Q:=Q) (ops := #[]) (o:=o) (b:=b) (u:=u) (K:=K) (E:=True) hg F xs ts _ ho hv hF ?_
 ·rwa [if_pos (by simp [Region.wanted,hg])] at h0
 ·refine Calls.mono (h f u hJ fun j hj=>?_) ?_
  ·obtain ⟨v,hv⟩:=sE ((anc_is hj).up hc hu)
   obtain ⟨s',hs',hok⟩:=hJ.val j v hv
   exact ⟨v,s',hv,hs',hok⟩
  ·rintro e w' ⟨v,rfl,hok,hb,hw⟩
   refine ⟨v,rfl,hK v w' (hJ.upd hwf hc hf hu hs hok ?_ (fun _=>hb) hw)⟩
   rw [hold_same hf hq]
   exact hJ.mem.below hb
theorem sy_call {i:Nat} {o:Oper} {s:Sy} {V:Value} (F:FuncId) (xs:List Operand) (vs:List Value) (ts:Array TypeId) (hwf:wfB l sy=true) (hg:o.guard=none) (hs:sy[i]? = some s) (hq:quietB sy pt i=true) (hcl:s.cl = .v (.c V))
  (ho:o.op = .call { callee := .value (.func F),args:=xs.toArray,argTypes:=ts }) (hr:xs.all (readB l i)=true) (hF:∀ (args:Array Value) (u:World),(callFunc F args).run P u = .ok (.enter F args) u)
  (hv:∀ f,xs.map (sev l sy a f)=vs) (h:∀ u,Calls P F vs.toArray u (fun e w'=>e = .returned V∧Below u.heap.size u w')):SyStep P Q l T w old sy pt a i o :=
 sy_callJ F xs ts hwf hg hs hq ho hr hF fun f u _ _=>by
  rw [hv]
  refine (h u).mono ?_
  rintro e w' ⟨rfl,hb⟩
  exact ⟨V,rfl,by rw [hcl];rfl,hb,CL.no (by rw [hcl];rfl)⟩
def allocB (l:List Oper) (old:List (Nat×OP)) (pt:List Put) (i:Nat):Bool:=noPut pt i && pt.all fun e=>e.2.1 != old.length+i || ((anc l).getD e.1 0).testBit i
theorem sy_alloc {i:Nat} {o:Oper} {s:Sy} {p:OP} {t:TypeId} {cs:Array Value} (hwf:wfB l sy=true) (hg:o.guard=none) (hs:sy[i]? = some s) (hcl:s.cl = .new) (hobj:s.obj=some p) (hB:allocB l old pt i=true)
  (ho:o.op = .alloc t) (hz:∀ u,(zeroValue t).run P u = .ok (.agg cs) u) (hp:p (.cells cs t (0,0))):SyStep P Q l T w old sy pt a i o:=by
 intro f b u K hJ hf hc hu hsee hK
 simp only [allocB,Bool.and_eq_true,List.all_eq_true,Bool.or_eq_true,bne_iff_ne] at hB
 have h0:=step_alloc_row (P:=P) (Q:=Q) (ops := #[]) (o:=o) (a:=b) (w:=u) (K:=K) (E:=True) hg t ho cs (hz u) ?_
 ·rw [if_pos (wanted_none hg)]
  rwa [if_pos (by simp [Region.wanted,hg])] at h0
 ·refine hK _ _ (hJ.upd hwf hc hf hu hs (by rw [hcl];exact ⟨_,rfl⟩) ?_ (fun _=>(Below.refl _ u).alloc (Nat.le_refl _) _) (CL.no (by rw [hcl];rfl)))
  rw [holdAt_new (s:=s.sp) (g:=u.heap.size) (p:=p) (by rw [List.getElem?_map,hs];rfl) (by simp [Sy.sp,hobj,ptrObj]) hB.1 (fun e he e2=>?_)]
  ·exact hJ.mem.new _ ((Below.refl _ u).alloc (Nat.le_refl _) _) (Nat.le_refl _) (blk_new u _) hp
  ·rcases hB.2 e he with h1|h1
   ·exact absurd e2 h1
   ·exact (anc_is h1).down hc hf
theorem sy_load {i:Nat} {o:Oper} {s:Sy} {p:OP} {ty:TypeId} {x:Operand} {k:IntKind} {d:TypeDesc} (κ off n:Nat) (hwf:wfB l sy=true) (hg:o.guard=none) (hs:sy[i]? = some s) (hq:quietB sy pt i=true) (hnw:s.cl.notW=true)
  (ho:o.op = .load ty x) (hr:readB l i x=true) (hl:liveB l old sy i κ=true) (hx:∀ f,sev l sy a f x = .pointer (some ⟨adr old f κ,off,none⟩)) (hc':cont l old sy pt i κ=some p)
  (hu':P.underlying ty=some d) (hd:d.isRow=true) (hi:(P.info? ty).map (·.size)=some n)
  (h:∀ (f:Fill) (o:Obj),p o→∃ (cs:Array Value) (t:TypeId) (fr:Nat×Nat) (xs:List Int),o = .cells cs t fr∧xs.length=n∧(cs.toList.drop off).take xs.length=xs.map (Value.int k)∧s.cl.ok f (.agg (arr k xs))):SyStep P Q l T w old sy pt a i o:=by
 intro f b u K hJ hf hc hu hsee hK
 have hh:=hold_cont hJ hc hf hu hc' hl
 obtain ⟨⟨ob,hob,hpo⟩, -⟩:=hJ.mem.mem κ _ _ hh
 obtain ⟨cs,t,fr,xs,rfl,hn,hpart,hok⟩:=h f ob hpo
 have h0:=step_load_part (P:=P) (Q:=Q) (ops := #[]) (o:=o) (a:=b) (w:=u) (K:=K) (E:=True) hg ty x ho _ off cs t fr d hob ((sev_is hJ hc hu hsee hr).trans (hx f)) k xs hpart hu' hd (by rw [hn];exact hi) ?_
 ·rw [if_pos (wanted_none hg)]
  rwa [if_pos (by simp [Region.wanted,hg])] at h0
 ·refine hK _ _ (hJ.upd hwf hc hf hu hs hok ?_ (fun _=>Below.refl _ _) (CL.no hnw))
  rw [hold_same hf hq]
  exact hJ.mem
theorem sy_store {i:Nat} {o:Oper} {s:Sy} {p q:OP} {ty t:TypeId} {x y:Operand} (κ n:Nat) (hwf:wfB l sy=true) (hg:o.guard=none) (hs:sy[i]? = some s) (hobj:s.obj=none) (hcl:s.cl = .soft fun _=>True)
  (ho:o.op = .store ty x y) (hr:(readB l i x && readB l i y)=true) (hl:liveB l old sy i κ=true) (hx:∀ f,sev l sy a f x = .pointer (some ⟨adr old f κ,0,none⟩)) (hc':cont l old sy pt i κ=some p) (hpt:putChk (know l i) i κ pt=some q)
  (hb:∀ o,p o→∃ cs,o = .cells cs t (0,0)∧cs.size=n) (hi:(P.info? ty).map (·.size)=some n)
  (hy:∀ (f:Fill),(∀ j,((anc l).getD i 0).testBit j=true→∃ v s',f j=some v∧sy[j]? = some s'∧s'.cl.ok f v)→∃ ds,sev l sy a f y = .agg ds∧ds.size=n∧ds.all (·.oneCell')=true∧q (.cells ds t (0,0))):SyStep P Q l T w old sy pt a i o:=by
 intro f b u K hJ hf hc hu hsee hK
 simp only [Bool.and_eq_true] at hr
 have hh:=hold_cont hJ hc hf hu hc' hl
 obtain ⟨⟨ob,hob,hpo⟩, -⟩:=hJ.mem.mem κ _ _ hh
 obtain ⟨cs,rfl,hn⟩:=hb ob hpo
 obtain ⟨ds,hds,hsz,hone,hq⟩:=hy f fun j hj=>by
  obtain ⟨v,hv⟩:=sE ((anc_is hj).up hc hu)
  obtain ⟨s',hs',hok⟩:=hJ.val j v hv
  exact ⟨v,s',hv,hs',hok⟩
 have h0:=step_store_whole (P:=P) (Q:=Q) (ops := #[]) (o:=o) (a:=b) (w:=u) (K:=K) (E:=True) hg ty x y ho _ cs ds t hob ((sev_is hJ hc hu hsee hr.1).trans (hx f)) ((sev_is hJ hc hu hsee hr.2).trans hds) (by rw [hsz,hn]) (by rw [hsz];exact hi) hone ?_
 ·rw [if_pos (wanted_none hg)]
  rwa [if_pos (by simp [Region.wanted,hg])] at h0
 ·intro w' h1 h2 _
  refine hK _ _ (hJ.upd hwf hc hf hu hs (by rw [hcl];trivial) ?_ (fun e=>by rw [putChk_no hpt] at e;cases e) (CL.no (by rw [hcl];rfl)))
  rw [holdAt_put (s:=s.sp) (kn:=know l i) (fun k b hk=>know_is hc hf hu hk) (by rw [List.getElem?_map,hs];rfl) (by simp [Sy.sp,hobj]) hf hpt hh]
  exact hJ.mem.put κ hh h2 h1 hq
/-! ### The whole region -/
def den' (g:Nat→Nat) (x:Nat→Value):SV→Value
 | .c v=>v
 | .q j off => .pointer (some ⟨g j,off,none⟩)
 | .sl j off n m => .slice (some ⟨g j,off,none⟩) n m
 | .r j=>x j
def Sy.at (g:Nat→Nat) (x:Nat→Value) (k:Nat) (s:Sy):Value:=match s.cl with
 | .v y=>den' g x y
 | .soft _=>x k
 | .new => .pointer (some ⟨g k,0,none⟩)
 | .mk n => .slice (some ⟨g k,0,none⟩) n n
 | .w _ _=>x k
def lay (g:Nat→Nat) (x:Nat→Value):List Oper→List Sy→Nat→Act→Act
 | o :: l,s :: sy,k,a=>lay g x l sy (k+1) (a.put o.dst (s.at g x k))
 | _,_,_,a=>a
def endPut (pt:List Put) (κ:Nat) (p:OP):OP:=pt.foldl (fun p e=>if e.2.1=κ then e.2.2 else p) p
def endAt (old:List (Nat×OP)) (sy:List Sy) (pt:List Put) (g:Nat→Nat) (κ:Nat):Option (Nat×OP) :=
 if κ < old.length then (old[κ]?).map fun e=>(e.1,endPut pt κ e.2) else ((sy[κ - old.length]?).bind (·.obj)).map fun p=>(g (κ - old.length),endPut pt κ p)
def endB (l:List Oper) (sy:List Sy) (pt:List Put):Bool:=sy.length == l.length && (sy.all fun s=>s.obj.isNone || s.cl.isNew) && pt.all fun e=>decide (e.1 < l.length)
theorem lay_is {g:Nat→Nat} {x:Nat→Value} {f:Fill}:∀ (l:List Oper) (sy:List Sy) (k:Nat) (a:Act),sy.length=l.length→(∀ i s,sy[i]? = some s→f (k+i)=some (s.at g x (k+i)))→laid l k f a=lay g x l sy k a
 | [],[],_,_,_,_=>rfl
 | [],_ :: _,_,_,h,_=>by simp at h
 | _ :: _,[],_,_,h,_=>by simp at h
 | o :: l,s :: sy,k,a,h,hf=>by
  have h0:=hf 0 s rfl
  simp only [Nat.add_zero] at h0
  simp only [laid,lay,h0]
  exact lay_is l sy (k+1) _ (by simpa using h) (fun i s' hs'=>by rw [show k+1+i=k+(i+1) by omega];exact hf (i+1) s' hs')
theorem den_den {f:Fill} {y:SV}:den f y=den' (fun j=>blkOf (f j)) (fun j=>(f j).getD undef) y:=by cases y <;> rfl
theorem wp_region_sym {id:Nat} {u0:World} (hm:P.follows .mixedOrders=true) (hB:(linB2 l a.tmps.size && backB l && endB l sy pt)=true) (hwf:wfB l sy=true)
  (h0:Holds T w u0 fun κ=>old[κ]?) (hs:wfB l sy=true→LinAllG P Q l (fun f u=>SJ T w old sy pt f u) a l 0)
  (hend:∀ (g:Nat→Nat) (x:Nat→Value) (u:World),(∀ (k:Nat) (s:Sy) (S:Value→Prop),sy[k]? = some s→s.cl = .soft S→S (x k))→Holds T w u (endAt old sy pt g)→Q .normal (lay g x l sy 0 a) u):(Code.region id l.toArray true).wp P Q a u0:=by
 rw [Bool.and_eq_true] at hB
 simp only [endB,Bool.and_eq_true,beq_iff_eq,List.all_eq_true,decide_eq_true_eq] at hB
 obtain ⟨hB1,⟨hlen,hobj⟩,hpt⟩:=hB
 refine wp_region_ling (fun f u=>SJ T w old sy pt f u) hm (by rw [hB1.1,hB1.2];rfl) ⟨fun i v h=>by simp at h,?_,fun i v s S h e=>by simp at e⟩ (hs hwf) fun f u hall hJ=>?_
 ·have e:holdAt old (sy.map Sy.sp) pt (fun _=>none)=fun κ=>old[κ]? := by
   have hn:∀ κ p,putOn pt (fun _=>none) κ p=p:=by
    intro κ
    clear hpt hs hend
    induction pt with
    | nil=>intro p;rfl
    | cons e r ih =>
     intro p
     show putOn r (fun _=>none) κ (if e.2.1=κ∧(none:Option Value).isSome=true then e.2.2 else p)=p
     rw [if_neg (by simp)]
     exact ih p
   funext κ
   unfold holdAt baseAt
   by_cases hlt:κ < old.length
   ·rw [if_pos hlt]
    simp only [hn]
    cases old[κ]? <;> rfl
   ·rw [if_neg hlt,List.getElem?_eq_none (by omega:old.length≤κ)]
    split <;> simp_all
  rw [e]
  exact h0.drew
 ·have hcl:∀ k s,sy[k]? = some s→∃ v,f k=some v∧s.cl.ok f v:=by
   intro k s hk
   obtain ⟨v,hv⟩:=sE (hall k (by rw [← hlen];exact (List.getElem?_eq_some_iff.1 hk).1))
   obtain ⟨s',hs',hok⟩:=hJ.val k v hv
   rw [hk] at hs'
   cases hs'
   exact ⟨v,hv,hok⟩
  rw [lay_is (g:=fun j=>blkOf (f j)) (x:=fun j=>(f j).getD undef) l sy 0 a hlen fun i s hi=>?_]
  ·refine hend _ _ _ (fun k s S hk hc=>?_) ?_
   ·obtain ⟨v,hv,hok⟩:=hcl k s hk
    rw [hc] at hok
    simp only [hv,Option.getD_some]
    exact hok
   ·have e:holdAt old (sy.map Sy.sp) pt f=endAt old sy pt (fun j=>blkOf (f j)):=by
     have hp:∀ κ p,putOn pt f κ p=endPut pt κ p:=by
      intro κ
      unfold putOn endPut
      clear hJ hs hend
      induction pt with
      | nil=>intro p;rfl
      | cons e r ih =>
       intro p
       simp only [List.foldl_cons]
       have:=hall e.1 (hpt e (List.mem_cons_self ..))
       have e1:∀ p,(if e.2.1=κ∧(f e.1).isSome=true then e.2.2 else p)=if e.2.1=κ then e.2.2 else p:=by
        intro p
        by_cases h1:e.2.1=κ
        ·rw [if_pos ⟨h1,this⟩,if_pos h1]
        ·rw [if_neg (fun h=>h1 h.1),if_neg h1]
       rw [e1]
       exact ih (fun x hx=>hpt x (List.mem_cons_of_mem _ hx)) _
     funext κ
     unfold holdAt baseAt endAt
     by_cases hlt:κ < old.length
     ·rw [if_pos hlt,if_pos hlt]
      simp only [hp]
     ·rw [if_neg hlt,if_neg hlt,List.getElem?_map]
      cases hk:sy[κ - old.length]? with
      | none=>rfl
      | some s =>
       obtain ⟨v,hv,hok⟩:=hcl _ _ hk
       simp only [Option.map_some,hv,Option.bind_some,Sy.sp]
       cases ho:s.obj with
       | none=>rfl
       | some p =>
        have h1:=hobj s (List.mem_of_getElem? hk)
        rw [ho] at h1
        simp only [Option.isNone_some,Bool.false_or] at h1
        cases hx:s.cl with
        | v y=>simp [hx,CL.isNew] at h1
        | soft S=>simp [hx,CL.isNew] at h1
        | w S h=>simp [hx,CL.isNew] at h1
        | new =>
         rw [hx] at hok
         obtain ⟨g,rfl⟩:=hok
         simp only [ptrObj,Option.map_some,blkOf,hp]
        | mk n =>
         rw [hx] at hok
         obtain ⟨g,rfl⟩:=hok
         simp only [ptrObj,Option.map_some,blkOf,hp]
    rw [← e]
    exact hJ.mem
  ·rw [Nat.zero_add]
   obtain ⟨v,hv,hok⟩:=hcl i s hi
   rw [hv]
   unfold Sy.at
   cases hx:s.cl with
   | v y=>rw [hx] at hok;simp only;rw [← den_den];exact congrArg some hok
   | soft S=>simp [hv]
   | w S h=>simp [hv]
   | new=>rw [hx] at hok;obtain ⟨g,rfl⟩:=hok;simp [hv,blkOf]
   | mk n=>rw [hx] at hok;obtain ⟨g,rfl⟩:=hok;simp [hv,blkOf]
end
/-! ### Short words -/
abbrev cel (cs:Array Value) (t:TypeId):OP:=fun o=>o = .cells cs t (0,0)
abbrev Yv (v:Value):Sy:=⟨.v (.c v),none⟩
abbrev Yr (k:IntKind) (xs:List Int):Sy:=⟨.v (.c (.agg (arr k xs))),none⟩
abbrev Yp (g off:Nat):Sy:=⟨.v (.c (.pointer (some ⟨g,off,none⟩))),none⟩
abbrev Yq (j off:Nat):Sy:=⟨.v (.q j off),none⟩
abbrev Yn (cs:Array Value) (t:TypeId):Sy:=⟨.new,some (cel cs t)⟩
abbrev Y0:Sy:=⟨.soft fun _=>True,none⟩
def oldOf (L:List (Nat×Array Value×TypeId)):List (Nat×OP):=L.map fun e=>(e.1,cel e.2.1 e.2.2)
theorem Blk.holds {w u:World} {L:List (Nat×Array Value×TypeId)} (h:Blk w u L):Holds (fun _=>False) w u fun κ=>(oldOf L)[κ]? := by
 have hx:∀ (i g:Nat) (p:OP),(oldOf L)[i]? = some (g,p)→∃ c t,L[i]? = some (g,c,t)∧p=cel c t:=by
  intro i g p hi
  simp only [oldOf,List.getElem?_map,Option.map_eq_some_iff,Prod.mk.injEq] at hi
  obtain ⟨⟨g',c,t⟩,h1,rfl,rfl⟩:=hi
  exact ⟨c,t,h1,rfl⟩
 refine ⟨fun i g p hi=>?_,fun i j g p q hi hj=>?_,Kept.of_below h.below⟩
 ·obtain ⟨c,t,h1,rfl⟩:=hx i g p hi
  obtain ⟨h2,h3⟩:=h.mem i g c t h1
  exact ⟨⟨_,h2,rfl⟩, .inr h3⟩
 ·obtain ⟨c,t,h1,rfl⟩:=hx i g p hi
  obtain ⟨c',t',h2,rfl⟩:=hx j g q hj
  exact h.inj i j g c t c' t' h1 h2
theorem Holds.blk {w u:World} {L:Nat→Option (Nat×OP)} (h:Holds (fun _=>False) w u L) (ks:List Nat) (l:List (Nat×Array Value×TypeId)) (hd:ks.Nodup) (hl:ks.map L=l.map fun e=>some (e.1,cel e.2.1 e.2.2)):Blk w u l:=by
 have hlen:ks.length=l.length:=by have:=congrArg List.length hl;simpa using this
 have hx:∀ (i g:Nat) (c:Array Value) (t:TypeId),l[i]? = some (g,c,t)→∃ κ,ks[i]? = some κ∧L κ=some (g,cel c t):=by
  intro i g c t hi
  have h1:(ks.map L)[i]? = some (some (g,cel c t)):=by rw [hl,List.getElem?_map,hi];rfl
  rw [List.getElem?_map] at h1
  obtain ⟨κ,h2,h3⟩:=Option.map_eq_some_iff.1 h1
  exact ⟨κ,h2,h3⟩
 refine ⟨fun i g c t hi=>?_,fun i j g c t c' t' hi hj=>?_,h.keep.toBelow (Nat.le_refl _) (fun _ e=>e.elim)⟩
 ·obtain ⟨κ,_,h2⟩:=hx i g c t hi
  obtain ⟨⟨o,ho,rfl⟩,hT⟩:=h.mem κ g _ h2
  exact ⟨ho,hT.resolve_left id⟩
 ·obtain ⟨κ,h1,h2⟩:=hx i g c t hi
  obtain ⟨κ',h3,h4⟩:=hx j g c' t' hj
  have e:=h.inj κ κ' g _ _ h2 h4
  subst e
  obtain ⟨i1,i2⟩:=List.getElem?_eq_some_iff.1 h1
  obtain ⟨j1,j2⟩:=List.getElem?_eq_some_iff.1 h3
  exact (List.getElem_inj (h₀:=i1) (h₁:=j1) hd).1 (i2.trans j2.symm)
/-- A type of n integers in a row. -/
structure RowT (P:Program) (ty:TypeId) (n:Nat):Prop where
 d:∃ d,P.underlying ty=some d∧d.isRow=true
 i:(P.info? ty).map (·.size)=some n
section
variable {P:Program} {Q:Exit→Act→World→Prop} {T:Nat→Prop} {w:World} {l:List Oper} {old:List (Nat×OP)} {sy:List Sy} {pt:List Put} {a:Act} {r:List Oper} {i:Nat} {o:Oper}
abbrev SyAll (P:Program) (Q:Exit→Act→World→Prop) (l:List Oper) (T:Nat→Prop) (w:World) (old:List (Nat×OP)) (sy:List Sy) (pt:List Put) (a:Act) (r:List Oper) (i:Nat):Prop:=LinAllG P Q l (fun f u=>SJ T w old sy pt f u) a r i
theorem SyN:SyAll P Q l T w old sy pt a [] i:=trivial
/-- A value that is reckoned. -/
theorem SyP (hW:wfB l sy=true) (hr:SyAll P Q l T w old sy pt a r (i+1)) {x:SV} (hg:o.guard=none:=by rfl) (hs:sy[i]? = some ⟨.v x,none⟩:=by rfl) (hq:quietB sy pt i=true:=by kernel_rfl) (he:(easy o.op && o.op.operands.toList.all (readB l i))=true:=by kernel_rfl)
  (h:∀ (f:Fill) (u:World),(execOp (sev l sy a f) o).run P u = .ok (.value (den f x)) u:=by intro f u;first|rfl|kernel_rfl):SyAll P Q l T w old sy pt a (o :: r) i :=
 .cons (sy_pure hW hg hs hq rfl he h) hr
/-- The same, its run given. -/
theorem SyB (hW:wfB l sy=true) (hr:SyAll P Q l T w old sy pt a r (i+1)) {v:Value} (t:TypeId) (ps:Array (Nat×Operand)) (vs:List (Nat×Value)) (hrun:∀ u,(Instr.build t vs.toArray).run P u = .ok v u) (ho:o.op = .build t ps:=by rfl) (hg:o.guard=none:=by rfl) (hs:sy[i]? = some (Yv v):=by rfl) (hq:quietB sy pt i=true:=by kernel_rfl) (he:(easy o.op && o.op.operands.toList.all (readB l i))=true:=by kernel_rfl)
  (hv:∀ f,ps.toList.map (fun p=>(p.1,sev l sy a f p.2))=vs:=by intro f;first|rfl|kernel_rfl):SyAll P Q l T w old sy pt a (o :: r) i :=
 .cons (sy_pure hW hg hs hq rfl he fun f u=>exec_build_l t ps ho vs.toArray (by rw [hv f]) v (hrun u)) hr
/-- A load of a row. -/
theorem SyL (hW:wfB l sy=true) (hr:SyAll P Q l T w old sy pt a r (i+1)) {ty:TypeId} {x:Operand} {k:IntKind} {xs:List Int} {n:Nat} (κ off:Nat) (cs:Array Value) (t:TypeId) (hR:RowT P ty n) (hn:xs.length=n) (hp:(cs.toList.drop off).take xs.length=xs.map (Value.int k))
  (ho:o.op = .load ty x:=by rfl) (hg:o.guard=none:=by rfl) (hs:sy[i]? = some (Yr k xs):=by rfl) (hq:quietB sy pt i=true:=by kernel_rfl) (hrd:readB l i x=true:=by kernel_rfl) (hl:liveB l old sy i κ=true:=by kernel_rfl)
  (hx:∀ f,sev l sy a f x = .pointer (some ⟨adr old f κ,off,none⟩):=by intro f;first|rfl|kernel_rfl) (hc:cont l old sy pt i κ=some (cel cs t):=by kernel_rfl):SyAll P Q l T w old sy pt a (o :: r) i:=by
 obtain ⟨d,hd1,hd2⟩:=hR.d
 exact .cons (sy_load κ off n hW hg hs hq rfl ho hrd hl hx hc hd1 hd2 hR.i fun f ob h=>⟨cs,t,(0,0),xs,h,hn,hp,rfl⟩) hr
/-- A variable of its own. -/
theorem SyA (hW:wfB l sy=true) (hr:SyAll P Q l T w old sy pt a r (i+1)) {t:TypeId} {cs:Array Value} (hz:∀ u,(zeroValue t).run P u = .ok (.agg cs) u) (ho:o.op = .alloc t:=by rfl) (hg:o.guard=none:=by rfl) (hs:sy[i]? = some (Yn cs t):=by rfl) (hB:allocB l old pt i=true:=by kernel_rfl):SyAll P Q l T w old sy pt a (o :: r) i :=
 .cons (sy_alloc hW hg hs rfl rfl hB ho hz rfl) hr
/-- A store of a row over a whole block. -/
theorem SyS (hW:wfB l sy=true) (hr:SyAll P Q l T w old sy pt a r (i+1)) {ty:TypeId} {x y:Operand} {k:IntKind} {xs:List Int} {n:Nat} (κ:Nat) (cs:Array Value) (t:TypeId) (hR:RowT P ty n) (hn:xs.length=n) (hcs:cs.size=n)
  (hpt:putChk (know l i) i κ pt=some (cel (arr k xs) t):=by kernel_rfl) (ho:o.op = .store ty x y:=by rfl) (hg:o.guard=none:=by rfl) (hs:sy[i]? = some Y0:=by rfl) (hrd:(readB l i x && readB l i y)=true:=by kernel_rfl) (hl:liveB l old sy i κ=true:=by kernel_rfl)
  (hx:∀ f,sev l sy a f x = .pointer (some ⟨adr old f κ,0,none⟩):=by intro f;first|rfl|kernel_rfl) (hy:∀ f,sev l sy a f y = .agg (arr k xs):=by intro f;first|rfl|kernel_rfl) (hc:cont l old sy pt i κ=some (cel cs t):=by kernel_rfl):SyAll P Q l T w old sy pt a (o :: r) i :=
 .cons (sy_store κ n hW hg hs rfl rfl ho hrd hl hx hc hpt (fun ob h=>⟨cs,h,hcs⟩) hR.i fun f _=>⟨arr k xs,hy f,by rw [arr_size,hn],all_arr _ _,rfl⟩) hr
/-- A call that answers a row. -/
theorem SyC (hW:wfB l sy=true) (hr:SyAll P Q l T w old sy pt a r (i+1)) {F:FuncId} {xs:List Operand} {ts:Array TypeId} {vs:List Value} {k:IntKind} {z:List Int} {R:List Int→Prop} (h:∀ u,Calls P F vs.toArray u fun e w'=>∃ zs,e = .returned (.agg (arr k zs))∧R zs∧Below u.heap.size u w') (he:∀ y,R y→y=z)
  (ho:o.op = .call { callee := .value (.func F),args:=xs.toArray,argTypes:=ts }:=by rfl) (hg:o.guard=none:=by rfl) (hs:sy[i]? = some (Yr k z):=by rfl) (hq:quietB sy pt i=true:=by kernel_rfl) (hrd:xs.all (readB l i)=true:=by kernel_rfl)
  (hF:∀ (args:Array Value) (u:World),(callFunc F args).run P u = .ok (.enter F args) u:=by intro args u;kernel_rfl) (hv:∀ f,xs.map (sev l sy a f)=vs:=by intro f;first|rfl|kernel_rfl):SyAll P Q l T w old sy pt a (o :: r) i :=
 .cons (sy_call F xs vs ts hW hg hs hq rfl ho hrd hF hv fun u=>by
  refine (h u).mono ?_
  rintro e w' ⟨zs,rfl,hR,hb⟩
  exact ⟨by rw [he zs hR],hb⟩) hr
end
end Go.Proofs.YtodnkallpfkdiaaDoor
namespace Go.Proofs.YtodnkallpfkdiaaDoor
open Go.RowKit
set_option linter.unusedSimpArgs false
set_option linter.unusedVariables false
abbrev Row (k:IntKind) (R:List Int→Prop) (v:Value):Prop:=∃ zs,v = .agg (arr k zs)∧R zs
abbrev Ys (k:IntKind) (R:List Int→Prop):Sy:=⟨.soft (Row k R),none⟩
abbrev celR (k:IntKind) (R:List Int→Prop) (t:TypeId):OP:=fun o=>∃ zs,o = .cells (arr k zs) t (0,0)∧R zs
/-- What a call is given: a told value, or what operation j has left. -/
inductive AR where
 | h (v:Value)
 | s (j:Nat) (k:IntKind) (R:List Int→Prop)
def AR.val (f:Fill):AR→Value
 | .h v=>v
 | .s j _ _=>(f j).getD undef
def AR.P:AR→Value→Prop
 | .h v,x=>x=v
 | .s _ k R,x=>Row k R x
def AR.ok (l:List Oper) (sy:List Sy) (i:Nat):AR→Prop
 | .h _=>True
 | .s j k R=>((anc l).getD i 0).testBit j=true∧sy[j]? = some (Ys k R)
theorem AR.is {l:List Oper} {sy:List Sy} {i:Nat} {f:Fill} (kn:∀ j,((anc l).getD i 0).testBit j=true→∃ v s',f j=some v∧sy[j]? = some s'∧s'.cl.ok f v) {A:AR} (h:A.ok l sy i):A.P (A.val f):=by
 cases A with
 | h v=>exact rfl
 | s j k R =>
  obtain ⟨h1,h2⟩:=h
  obtain ⟨v,s',hv,hs',hok⟩:=kn j h1
  rw [h2] at hs'
  cases hs'
  show Row k R ((f j).getD undef)
  rw [hv]
  exact hok
section
variable {P:Program} {Q:Exit→Act→World→Prop} {T:Nat→Prop} {w:World} {l:List Oper} {old:List (Nat×OP)} {sy:List Sy} {pt:List Put} {a:Act} {r:List Oper} {i:Nat} {o:Oper}
/-- A load of such a row, whole. -/
theorem SyLr (hW:wfB l sy=true) (hr:SyAll P Q l T w old sy pt a r (i+1)) {ty t:TypeId} {x:Operand} {k:IntKind} {R:List Int→Prop} {n:Nat} (κ:Nat) (hR:RowT P ty n) (hL:∀ zs,R zs→zs.length=n)
  (hc:cont l old sy pt i κ=some (celR k R t)) (ho:o.op = .load ty x:=by rfl) (hg:o.guard=none:=by rfl) (hs:sy[i]? = some (Ys k R):=by rfl) (hq:quietB sy pt i=true:=by kernel_rfl) (hrd:readB l i x=true:=by kernel_rfl) (hl:liveB l old sy i κ=true:=by kernel_rfl)
  (hx:∀ f,sev l sy a f x = .pointer (some ⟨adr old f κ,0,none⟩):=by intro f;first|rfl|kernel_rfl):SyAll P Q l T w old sy pt a (o :: r) i:=by
 obtain ⟨d,hd1,hd2⟩:=hR.d
 refine .cons (sy_load (k:=k) κ 0 n hW hg hs hq rfl ho hrd hl hx hc hd1 hd2 hR.i fun f ob h=>?_) hr
 obtain ⟨zs,h,hz⟩:=h
 exact ⟨_,t,(0,0),zs,h,hL zs hz,arr_part _ _,⟨zs,rfl,hz⟩⟩
/-- A store of such a row over a whole block. -/
theorem SySr (hW:wfB l sy=true) (hr:SyAll P Q l T w old sy pt a r (i+1)) {ty t:TypeId} {x y:Operand} {k:IntKind} {R:List Int→Prop} {n:Nat} {p:OP} (κ j:Nat) (hR:RowT P ty n) (hL:∀ zs,R zs→zs.length=n) (hb:∀ o,p o→∃ cs,o = .cells cs t (0,0)∧cs.size=n)
  (hpt:putChk (know l i) i κ pt=some (celR k R t)) (hc:cont l old sy pt i κ=some p) (hsj:sy[j]? = some (Ys k R):=by rfl) (hj:((anc l).getD i 0).testBit j=true:=by kernel_rfl) (ho:o.op = .store ty x y:=by rfl) (hg:o.guard=none:=by rfl) (hs:sy[i]? = some Y0:=by rfl) (hrd:(readB l i x && readB l i y)=true:=by kernel_rfl) (hl:liveB l old sy i κ=true:=by kernel_rfl)
  (hx:∀ f,sev l sy a f x = .pointer (some ⟨adr old f κ,0,none⟩):=by intro f;first|rfl|kernel_rfl) (hy:∀ f,sev l sy a f y=(f j).getD undef:=by intro f;first|rfl|kernel_rfl):SyAll P Q l T w old sy pt a (o :: r) i :=
 .cons (sy_store κ n hW hg hs rfl rfl ho hrd hl hx hc hpt hb hR.i fun f kn=>by
  obtain ⟨zs,e,hz⟩:=AR.is kn (A := .s j k R) ⟨hj,hsj⟩
  exact ⟨arr k zs,(hy f).trans e,by rw [arr_size,hL zs hz],all_arr _ _,⟨zs,rfl,hz⟩⟩) hr
/-- Calls of one, of two such rows that answer such a row. -/
theorem SyC1 (hW:wfB l sy=true) (hr:SyAll P Q l T w old sy pt a r (i+1)) {F:FuncId} {x1:Operand} {ts:Array TypeId} {k:IntKind} {R:List Int→Prop} (A:AR) (h:∀ v u,A.P v→Calls P F #[v] u fun e w'=>∃ zs,e = .returned (.agg (arr k zs))∧R zs∧Below u.heap.size u w')
  (hA:A.ok l sy i:=by first|trivial|exact ⟨by kernel_rfl,by rfl⟩) (ho:o.op = .call { callee := .value (.func F),args := #[x1],argTypes:=ts }:=by rfl) (hg:o.guard=none:=by rfl) (hs:sy[i]? = some (Ys k R):=by rfl) (hq:quietB sy pt i=true:=by kernel_rfl) (hrd:[x1].all (readB l i)=true:=by kernel_rfl)
  (hF:∀ (args:Array Value) (u:World),(callFunc F args).run P u = .ok (.enter F args) u:=by intro args u;kernel_rfl) (hv:∀ f,sev l sy a f x1=A.val f:=by intro f;first|rfl|kernel_rfl):SyAll P Q l T w old sy pt a (o :: r) i :=
 .cons (sy_callJ F [x1] ts hW hg hs hq ho hrd hF fun f u _ kn=>by
  refine Calls.mono (show Calls P F #[sev l sy a f x1] u _ from h _ u (by rw [hv];exact AR.is kn hA)) ?_
  rintro e w' ⟨zs,rfl,hz,hb⟩
  exact ⟨_,rfl,⟨zs,rfl,hz⟩,hb,CL.no rfl⟩) hr
theorem SyC2 (hW:wfB l sy=true) (hr:SyAll P Q l T w old sy pt a r (i+1)) {F:FuncId} {x1 x2:Operand} {ts:Array TypeId} {k:IntKind} {R:List Int→Prop} (A B:AR) (h:∀ v v' u,A.P v→B.P v'→Calls P F #[v,v'] u fun e w'=>∃ zs,e = .returned (.agg (arr k zs))∧R zs∧Below u.heap.size u w')
  (hA:A.ok l sy i:=by first|trivial|exact ⟨by kernel_rfl,by rfl⟩) (hB:B.ok l sy i:=by first|trivial|exact ⟨by kernel_rfl,by rfl⟩) (ho:o.op = .call { callee := .value (.func F),args := #[x1,x2],argTypes:=ts }:=by rfl) (hg:o.guard=none:=by rfl) (hs:sy[i]? = some (Ys k R):=by rfl) (hq:quietB sy pt i=true:=by kernel_rfl) (hrd:[x1,x2].all (readB l i)=true:=by kernel_rfl)
  (hF:∀ (args:Array Value) (u:World),(callFunc F args).run P u = .ok (.enter F args) u:=by intro args u;kernel_rfl) (hv:∀ f,sev l sy a f x1=A.val f:=by intro f;first|rfl|kernel_rfl) (hv':∀ f,sev l sy a f x2=B.val f:=by intro f;first|rfl|kernel_rfl):SyAll P Q l T w old sy pt a (o :: r) i :=
 .cons (sy_callJ F [x1,x2] ts hW hg hs hq ho hrd hF fun f u _ kn=>by
  refine Calls.mono (show Calls P F #[sev l sy a f x1,sev l sy a f x2] u _ from h _ _ u (by rw [hv];exact AR.is kn hA) (by rw [hv'];exact AR.is kn hB)) ?_
  rintro e w' ⟨zs,rfl,hz,hb⟩
  exact ⟨_,rfl,⟨zs,rfl,hz⟩,hb,CL.no rfl⟩) hr
/-- A build of four such rows. -/
theorem SyB4 (hW:wfB l sy=true) (hr:SyAll P Q l T w old sy pt a r (i+1)) {t:TypeId} {x1 x2 x3 x4:Operand} {k:IntKind} {R:List Int→Prop} (A B C D:AR) (h:∀ v1 v2 v3 v4,A.P v1→B.P v2→C.P v3→D.P v4→∃ zs,(∀ u,(Instr.build t #[(0,v1),(1,v2),(2,v3),(3,v4)]).run P u = .ok (.agg (arr k zs)) u)∧R zs)
  (hA:A.ok l sy i:=by first|trivial|exact ⟨by kernel_rfl,by rfl⟩) (hB:B.ok l sy i:=by first|trivial|exact ⟨by kernel_rfl,by rfl⟩) (hC:C.ok l sy i:=by first|trivial|exact ⟨by kernel_rfl,by rfl⟩) (hD:D.ok l sy i:=by first|trivial|exact ⟨by kernel_rfl,by rfl⟩)
  (ho:o.op = .build t #[(0,x1),(1,x2),(2,x3),(3,x4)]:=by rfl) (hg:o.guard=none:=by rfl) (hs:sy[i]? = some (Ys k R):=by rfl) (hq:quietB sy pt i=true:=by kernel_rfl) (hrd:([x1,x2,x3,x4].all (readB l i))=true:=by kernel_rfl)
  (h1:∀ f,sev l sy a f x1=A.val f:=by intro f;first|rfl|kernel_rfl) (h2:∀ f,sev l sy a f x2=B.val f:=by intro f;first|rfl|kernel_rfl) (h3:∀ f,sev l sy a f x3=C.val f:=by intro f;first|rfl|kernel_rfl) (h4:∀ f,sev l sy a f x4=D.val f:=by intro f;first|rfl|kernel_rfl):SyAll P Q l T w old sy pt a (o :: r) i :=
 .cons (sy_val hW hg hs hq rfl fun f b u hJ hc hf hu hsee=>by
  have kn:∀ j,((anc l).getD i 0).testBit j=true→∃ v s',f j=some v∧sy[j]? = some s'∧s'.cl.ok f v:=fun j hj=>by
   obtain ⟨v,hv⟩:=sE ((anc_is hj).up hc hu)
   obtain ⟨s',hs',hok⟩:=hJ.val j v hv
   exact ⟨v,s',hv,hs',hok⟩
  obtain ⟨zs,hrun,hz⟩:=h _ _ _ _ (AR.is kn hA) (AR.is kn hB) (AR.is kn hC) (AR.is kn hD)
  have hrd':=List.all_eq_true.1 hrd
  refine ⟨_,exec_build_l t _ ho _ ?_ _ (hrun u),⟨zs,rfl,hz⟩⟩
  show [(0,b.eval x1),(1,b.eval x2),(2,b.eval x3),(3,b.eval x4)]=_
  rw [(sev_is hJ hc hu hsee (hrd' x1 (by simp))).trans (h1 f),(sev_is hJ hc hu hsee (hrd' x2 (by simp))).trans (h2 f),(sev_is hJ hc hu hsee (hrd' x3 (by simp))).trans (h3 f),(sev_is hJ hc hu hsee (hrd' x4 (by simp))).trans (h4 f)]) hr
/-- A load of a variable of the package. -/
theorem SyG (hW:wfB l sy=true) (hr:SyAll P Q l T w old sy pt a r (i+1)) {v:Value} (h:∀ (u:World) (b:Act) (K:Act→World→Prop),Kept T w u→K (b.put o.dst v) u→Oper.wp P o b u K Q) (hg:o.guard=none:=by rfl) (hs:sy[i]? = some (Yv v):=by rfl) (hq:quietB sy pt i=true:=by kernel_rfl):SyAll P Q l T w old sy pt a (o :: r) i :=
 .cons (fun f b u K hJ hf hc hu hsee hK=>by
  rw [if_pos (wanted_none hg)]
  exact h u b K hJ.mem.keep (hK v u (hJ.upd hW hc hf hu hs rfl (by rw [hold_same hf hq];exact hJ.mem) (fun _=>Below.refl _ _) (CL.no rfl)))) hr
end
/-- A block's row is opened. -/
theorem Holds.opn {T:Nat→Prop} {w u:World} {L:Nat→Option (Nat×OP)} (h:Holds T w u L) (κ:Nat) {g:Nat} {k:IntKind} {R:List Int→Prop} {t:TypeId} (e:L κ=some (g,celR k R t)):∃ zs,R zs∧Holds T w u (fun j=>if j=κ then some (g,cel (arr k zs) t) else L j):=by
 obtain ⟨⟨ob,hob,zs,hx,hz⟩,hT⟩:=h.mem κ g _ e
 refine ⟨zs,hz,fun j g' p hj=>?_,fun j j' g' p q hj hj'=>?_,h.keep⟩
 ·by_cases c:j=κ
  ·rw [if_pos c] at hj
   cases hj
   exact ⟨⟨ob,hob,hx⟩,hT⟩
  ·rw [if_neg c] at hj
   exact h.mem j g' p hj
 ·have A:∀ j p,(if j=κ then some (g,cel (arr k zs) t) else L j)=some (g',p)→∃ p',L j=some (g',p'):=by
   intro j p hj
   by_cases c:j=κ
   ·rw [if_pos c] at hj
    cases hj
    exact ⟨_,c▸e⟩
   ·rw [if_neg c] at hj
    exact ⟨p,hj⟩
  obtain ⟨p',h1⟩:=A j p hj
  obtain ⟨q',h2⟩:=A j' q hj'
  exact h.inj j j' g' _ _ h1 h2
end Go.Proofs.YtodnkallpfkdiaaDoor
namespace Go.Proofs.YtodnkallpfkdiaaDoor
open Go.RowKit
set_option linter.unusedSimpArgs false
set_option linter.unusedVariables false
/-- The guard's value is known: is the operation wanted? -/
def gB (l:List Oper) (sy:List Sy) (i:Nat) (o:Oper):Option Bool:=match o.guard with
 | some (j,true)=>if ((anc l).getD i 0).testBit j && ((l[j]?).bind (·.dst)).isSome then (match ((sy[j]?).map Sy.cl:Option CL) with|some (CL.v (SV.c (Value.bool c)))=>some c|_=>none) else none
 | _=>none
section
variable {P:Program} {Q:Exit→Act→World→Prop} {T:Nat→Prop} {w:World} {l:List Oper} {old:List (Nat×OP)} {sy:List Sy} {pt:List Put} {a:Act} {r:List Oper} {i:Nat} {o:Oper}
theorem gB_is {f:Fill} {b:Act} {u:World} (hJ:SJ T w old sy pt f u) (hc:Closed l f) (hu:∀ j,waitsOn l i j=true→(f j).isSome=true) (hsee:Sees l f a b) {c:Bool} (h:gB l sy i o=some c):Region.wanted o (yielded l.toArray b.tmps)=c:=by
 unfold gB at h
 split at h
 ·rename_i j hg
  split at h
  ·rename_i h1
   simp only [Bool.and_eq_true] at h1
   obtain ⟨h1,h2⟩:=h1
   obtain ⟨s,hs⟩:=sE h2
   split at h
   ·rename_i c' hcl
    cases h
    obtain ⟨v,hv⟩:=sE ((anc_is h1).up hc hu)
    obtain ⟨s',hs',hok⟩:=hJ.val j v hv
    rw [hs'] at hcl
    simp only [Option.map_some,Option.some.injEq] at hcl
    rw [hcl] at hok
    have hok:v = .bool c:=hok
    have e:b.eval (.tmp s)=v:=hsee.val j s hs hv
    rw [hok] at e
    have h3:b.tmps[s]? = some (.bool c):=by
     have h4:b.tmps.getD s undef = .bool c:=e
     rw [Array.getD_eq_getD_getElem?] at h4
     cases h5:b.tmps[s]? with
     | none=>rw [h5] at h4;cases h4
     | some v=>rw [h5] at h4;rw [show v = .bool c from h4]
    have h6:yielded l.toArray b.tmps j=some c:=by
     unfold yielded
     rw [show (l.toArray[j]?).bind (·.dst)=some s by simpa using hs]
     simp [h3]
    cases c <;> simp [Region.wanted,hg,h6]
   ·cases h
  ·cases h
 ·cases h
/-- A guarded operation that is wanted is as one without a guard. -/
theorem SyU (hr:SyAll P Q l T w old sy pt a ({ o with guard:=none } :: r) i) (hg:gB l sy i o=some true:=by kernel_rfl):SyAll P Q l T w old sy pt a (o :: r) i :=
 ⟨fun f b u K hJ hf hc hu hsee hK=>by
  have h:=hr.1 f b u K hJ hf hc hu hsee hK
  rw [if_pos (wanted_none rfl)] at h
  rw [if_pos (gB_is hJ hc hu hsee hg)]
  exact h,hr.2⟩
/-- One that is not wanted. -/
theorem SyK (hW:wfB l sy=true) (hr:SyAll P Q l T w old sy pt a r (i+1)) (hg:gB l sy i o=some false:=by kernel_rfl) (hs:sy[i]? = some (Yv undef):=by rfl) (hq:quietB sy pt i=true:=by kernel_rfl):SyAll P Q l T w old sy pt a (o :: r) i :=
 .cons (fun f b u K hJ hf hc hu hsee hK=>by
  rw [if_neg (by rw [gB_is hJ hc hu hsee hg];decide)]
  exact hK undef u (hJ.upd hW hc hf hu hs rfl (by rw [hold_same hf hq];exact hJ.mem) (fun _=>Below.refl _ _) (CL.no rfl))) hr
abbrev Yw (S:World→Value→Prop) (h:∀ u u' v,Below u.heap.size u u'→S u v→S u' v):Sy:=⟨.w S h,none⟩
/-- A told value out of a run that heeds the world: it has the blocks, and all that is old is as it was. -/
theorem SyV (hW:wfB l sy=true) (hr:SyAll P Q l T w old sy pt a r (i+1)) {v:Value} (h:∀ (f:Fill) (u:World),Holds T w u (holdAt old (sy.map Sy.sp) pt f)→Closed l f→f i=none→(∀ j,waitsOn l i j=true→(f j).isSome=true)→(execOp (sev l sy a f) o).run P u = .ok (.value v) u)
  (he:∀ {ρ ρ':Operand→Value},(∀ x∈o.op.operands.toList,ρ x=ρ' x)→execOp ρ o=execOp ρ' o) (hrd:o.op.operands.toList.all (readB l i)=true:=by kernel_rfl) (hg:o.guard=none:=by rfl) (hs:sy[i]? = some (Yv v):=by rfl) (hq:quietB sy pt i=true:=by kernel_rfl):SyAll P Q l T w old sy pt a (o :: r) i :=
 .cons (sy_val hW hg hs hq rfl fun f b u hJ hc hf hu hsee=>⟨v,by
  rw [he fun x hx=>sev_is hJ hc hu hsee (List.all_eq_true.1 hrd x hx)]
  exact h f u hJ.mem hc hf hu,rfl⟩) hr
/-- A call of told values that answers what the world must bear out. -/
theorem SyCw (hW:wfB l sy=true) (hr:SyAll P Q l T w old sy pt a r (i+1)) {F:FuncId} {xs:List Operand} {ts:Array TypeId} {vs:List Value} {S:World→Value→Prop} {hS:∀ u u' v,Below u.heap.size u u'→S u v→S u' v} (h:∀ u,Kept T w u→Calls P F vs.toArray u fun e w'=>∃ v,e = .returned v∧S w' v∧Below u.heap.size u w')
  (ho:o.op = .call { callee := .value (.func F),args:=xs.toArray,argTypes:=ts }:=by rfl) (hg:o.guard=none:=by rfl) (hs:sy[i]? = some (Yw S hS):=by rfl) (hq:quietB sy pt i=true:=by kernel_rfl) (hrd:xs.all (readB l i)=true:=by kernel_rfl)
  (hF:∀ (args:Array Value) (u:World),(callFunc F args).run P u = .ok (.enter F args) u:=by intro args u;kernel_rfl) (hv:∀ f,xs.map (sev l sy a f)=vs:=by intro f;first|rfl|kernel_rfl):SyAll P Q l T w old sy pt a (o :: r) i :=
 .cons (sy_callJ F xs ts hW hg hs hq ho hrd hF fun f u hJ _=>by
  rw [hv]
  refine (h u hJ.mem.keep).mono ?_
  rintro e w' ⟨v,rfl,hw,hb⟩
  exact ⟨v,rfl,trivial,hb,fun S' h' e=>by cases e;exact hw⟩) hr
/-- No put has come up. -/
def noneB (l:List Oper) (pt:List Put) (i:Nat):Bool:=pt.all fun e=>know l i e.1 == some false || e.1 == i
theorem noneB_is {f:Fill} (hc:Closed l f) (hi:f i=none) (hu:∀ j,waitsOn l i j=true→(f j).isSome=true) (h:noneB l pt i=true):∀ e∈pt,f e.1=none:=by
 intro e he
 have h1:=List.all_eq_true.1 h e he
 simp only [Bool.or_eq_true,beq_iff_eq] at h1
 rcases h1 with h1|h1
 ·have:=know_is hc hi hu h1
  cases hx:f e.1 with
  | none=>rfl
  | some v=>rw [hx] at this;cases this
 ·rw [h1,hi]
/-- A call of told values and, last, of one that the world bears out; its answer is told. -/
theorem SyCv (hW:wfB l sy=true) (hr:SyAll P Q l T w old sy pt a r (i+1)) {F:FuncId} {xs:List Operand} {x:Operand} {ts:Array TypeId} {vs:List Value} {V:Value} {S:World→Value→Prop} {hS:∀ u u' v,Below u.heap.size u u'→S u v→S u' v} (j:Nat)
  (h:∀ u v,Kept T w u→S u v→Calls P F (vs ++ [v]).toArray u fun e w'=>e = .returned V∧Below u.heap.size u w') (hj:sy[j]? = some (Yw S hS):=by rfl) (ha:((anc l).getD i 0).testBit j=true:=by kernel_rfl) (hn:noneB l pt i=true:=by kernel_rfl)
  (ho:o.op = .call { callee := .value (.func F),args:=(xs ++ [x]).toArray,argTypes:=ts }:=by rfl) (hg:o.guard=none:=by rfl) (hs:sy[i]? = some (Yv V):=by rfl) (hq:quietB sy pt i=true:=by kernel_rfl) (hrd:(xs ++ [x]).all (readB l i)=true:=by kernel_rfl)
  (hF:∀ (args:Array Value) (u:World),(callFunc F args).run P u = .ok (.enter F args) u:=by intro args u;kernel_rfl) (hv:∀ f,xs.map (sev l sy a f)=vs:=by intro f;first|rfl|kernel_rfl) (hx:∀ f,sev l sy a f x=(f j).getD undef:=by intro f;first|rfl|kernel_rfl):SyAll P Q l T w old sy pt a (o :: r) i :=
 .cons (fun f b u K hJ hf hc hu hsee hK=>by
  have hz:(xs ++ [x]).map b.eval=vs ++ [(f j).getD undef]:=by
   rw [← hv f,← hx f,List.map_append]
   have hr':=List.all_eq_true.1 hrd
   congr 1
   ·exact List.map_congr_left fun y hy=>sev_is hJ hc hu hsee (hr' y (List.mem_append_left _ hy))
   ·simp only [List.map_cons,List.map_nil]
    rw [sev_is hJ hc hu hsee (hr' x (by simp))]
  obtain ⟨v,hvj⟩:=sE ((anc_is ha).up hc hu)
  have hSv:S u v:=hJ.wld j v _ S hS hvj hj rfl (noneB_is hc hf hu hn)
  rw [hvj,Option.getD_some] at hz
  rw [if_pos (wanted_none hg)]
  have h0:=lin_call (P:=P) (Q:=Q) (ops := #[]) (o:=o) (b:=b) (u:=u) (K:=K) (E:=True) hg F (xs ++ [x]) ts _ ho hz hF ?_
  ·rwa [if_pos (by simp [Region.wanted,hg])] at h0
  ·refine Calls.mono (h u v hJ.mem.keep hSv) ?_
   rintro e w' ⟨rfl,hb⟩
   exact ⟨V,rfl,hK V w' (hJ.upd hW hc hf hu hs rfl (by rw [hold_same hf hq];exact hJ.mem.below hb) (fun _=>hb) (CL.no rfl))⟩) hr
/-- What the older blocks hold when operation i comes up. -/
def HasB (l:List Oper) (old:List (Nat×OP)) (sy:List Sy) (pt:List Put) (i:Nat) (u:World):Prop:=∀ κ p,κ < old.length→cont l old sy pt i κ=some p→∃ ob,u.heap[(old.getD κ (0,fun _=>False)).1]? = some ob∧p ob
theorem HasB.of {f:Fill} {u:World} (hJ:SJ T w old sy pt f u) (hc:Closed l f) (hi:f i=none) (hu:∀ j,waitsOn l i j=true→(f j).isSome=true):HasB l old sy pt i u:=by
 intro κ p hlt hp
 have h:=(hJ.mem.mem κ _ _ (hold_cont hJ hc hi hu hp (by simp [liveB,hlt]))).1
 simp only [adr,if_pos hlt] at h
 exact h
/-- A list literal of one that the world bears out and of told values. -/
theorem SyMw (hW:wfB l sy=true) (hr:SyAll P Q l T w old sy pt a r (i+1)) {S S':World→Value→Prop} {hS:∀ u u' v,Below u.heap.size u u'→S u v→S u' v} {hS':∀ u u' v,Below u.heap.size u u'→S' u v→S' u' v} (j:Nat) (x:Operand) (xs:List Operand) (vs:List Value) (c:Value→Array Value) (te:TypeId)
  (h:∀ u v,Kept T w u→HasB l old sy pt i u→S u v→S' (u.alloc (.cells (c v) te)) (.slice (some ⟨u.heap.size,0,none⟩) (c v).size (c v).size))
  (hrun:∀ (ρ:Operand→Value) (u:World),S u (ρ x)→xs.map ρ=vs→(execOp ρ o).run P u = .ok (.value (.slice (some ⟨u.heap.size,0,none⟩) (c (ρ x)).size (c (ρ x)).size)) (u.alloc (.cells (c (ρ x)) te)))
  (hj:sy[j]? = some (Yw S hS):=by rfl) (ha:((anc l).getD i 0).testBit j=true:=by kernel_rfl) (hn:noneB l pt i=true:=by kernel_rfl) (hg:o.guard=none:=by rfl) (hs:sy[i]? = some (Yw S' hS'):=by rfl) (hq:quietB sy pt i=true:=by kernel_rfl) (hrd:(xs ++ [x]).all (readB l i)=true:=by kernel_rfl)
  (hv:∀ f,xs.map (sev l sy a f)=vs:=by intro f;first|rfl|kernel_rfl) (hx:∀ f,sev l sy a f x=(f j).getD undef:=by intro f;first|rfl|kernel_rfl):SyAll P Q l T w old sy pt a (o :: r) i :=
 .cons (fun f b u K hJ hf hc hu hsee hK=>by
  have hr':=List.all_eq_true.1 hrd
  obtain ⟨v,hvj⟩:=sE ((anc_is ha).up hc hu)
  have hSv:S u v:=hJ.wld j v _ S hS hvj hj rfl (noneB_is hc hf hu hn)
  have e1:b.eval x=v:=by rw [sev_is hJ hc hu hsee (hr' x (by simp)),hx f,hvj];rfl
  have e2:xs.map b.eval=vs:=by
   rw [← hv f]
   exact List.map_congr_left fun y hy=>sev_is hJ hc hu hsee (hr' y (List.mem_append_left _ hy))
  have h0:=hrun b.eval u (by rw [e1];exact hSv) e2
  rw [e1] at h0
  have hb:Below u.heap.size u (u.alloc (.cells (c v) te)):=(Below.refl _ u).alloc (Nat.le_refl _) _
  rw [if_pos (wanted_none hg)]
  unfold Oper.wp
  rw [h0]
  exact hK _ _ (hJ.upd hW hc hf hu hs trivial (by rw [hold_same hf hq];exact hJ.mem.below hb) (fun _=>hb) (fun S'' h'' e=>by cases e;exact h u v hJ.mem.keep (.of hJ hc hf hu) hSv))) hr
def aggD:TypeDesc→Bool
 | .struct _=>true
 | .array _ _=>true
 | _=>false
theorem exec_load_one {o:Oper} {ev:Operand→Value} {u:World} {ty:TypeId} {x:Operand} {A:Addr} {v:Value} {d:TypeDesc} (ho:o.op = .load ty x) (hx:ev x = .pointer (some A)) (hd:aggD d=false) (hu:P.underlying ty=some d) (hc:u.cell? A=some v):(execOp ev o).run P u = .ok (.value v) u:=by
 have ha:(isAgg ty).run P u = .ok false u:=by
  unfold isAgg
  simp only [Sem.run_bind,run_underlying hu,Result.andThen_ok]
  cases d <;> simp_all [aggD]
 have hl:(load A).run P u = .ok v u:=by simp [load,Sem.run,hc]
 simp [execOp,ho,hx,Instr.loadAt,Instr.sureAddr,asAddr,loadVar,ha,hl,Sem.run_bind,Result.andThen]
/-- A load of one cell. -/
theorem SyL1 (hW:wfB l sy=true) (hr:SyAll P Q l T w old sy pt a r (i+1)) {ty:TypeId} {x:Operand} {v:Value} {d:TypeDesc} (κ off:Nat) (cs:Array Value) (t:TypeId) (hcs:cs[off]? = some v) (hd:aggD d=false) (hu:P.underlying ty=some d)
  (ho:o.op = .load ty x:=by rfl) (hg:o.guard=none:=by rfl) (hs:sy[i]? = some (Yv v):=by rfl) (hq:quietB sy pt i=true:=by kernel_rfl) (hrd:readB l i x=true:=by kernel_rfl) (hl:liveB l old sy i κ=true:=by kernel_rfl)
  (hx:∀ f,sev l sy a f x = .pointer (some ⟨adr old f κ,off,none⟩):=by intro f;first|rfl|kernel_rfl) (hc:cont l old sy pt i κ=some (cel cs t):=by kernel_rfl):SyAll P Q l T w old sy pt a (o :: r) i :=
 .cons (sy_val hW hg hs hq rfl fun f b u hJ hc' hf hu' hsee=>⟨v,by
  obtain ⟨⟨ob,hob,hpo⟩, -⟩:=hJ.mem.mem κ _ _ (hold_cont hJ hc' hf hu' hc hl)
  have hpo:ob = .cells cs t (0,0):=hpo
  subst hpo
  exact exec_load_one ho ((sev_is hJ hc' hu' hsee hrd).trans (hx f)) hd hu (by rw [cell_blk hob,hcs]),rfl⟩) hr
/-- A call of told values that answers a told one. -/
theorem SyD (hW:wfB l sy=true) (hr:SyAll P Q l T w old sy pt a r (i+1)) {F:FuncId} {xs:List Operand} {ts:Array TypeId} {vs:List Value} {V:Value} (h:∀ u,Kept T w u→Calls P F vs.toArray u fun e w'=>e = .returned V∧Below u.heap.size u w')
  (ho:o.op = .call { callee := .value (.func F),args:=xs.toArray,argTypes:=ts }:=by rfl) (hg:o.guard=none:=by rfl) (hs:sy[i]? = some (Yv V):=by rfl) (hq:quietB sy pt i=true:=by kernel_rfl) (hrd:xs.all (readB l i)=true:=by kernel_rfl)
  (hF:∀ (args:Array Value) (u:World),(callFunc F args).run P u = .ok (.enter F args) u:=by intro args u;kernel_rfl) (hv:∀ f,xs.map (sev l sy a f)=vs:=by intro f;first|rfl|kernel_rfl):SyAll P Q l T w old sy pt a (o :: r) i :=
 .cons (sy_callJ F xs ts hW hg hs hq ho hrd hF fun f u hJ _=>by
  rw [hv]
  refine (h u hJ.mem.keep).mono ?_
  rintro e w' ⟨rfl,hb⟩
  exact ⟨V,rfl,rfl,hb,CL.no rfl⟩) hr
/-- A store of a told aggregate over a whole block. -/
theorem SySa (hW:wfB l sy=true) (hr:SyAll P Q l T w old sy pt a r (i+1)) {ty:TypeId} {x y:Operand} {n:Nat} {ds:Array Value} (κ:Nat) (cs:Array Value) (t:TypeId) (hi:(P.info? ty).map (·.size)=some n) (hcs:cs.size=n) (hds:ds.size=n) (hone:ds.all (·.oneCell')=true)
  (hpt:putChk (know l i) i κ pt=some (cel ds t):=by kernel_rfl) (ho:o.op = .store ty x y:=by rfl) (hg:o.guard=none:=by rfl) (hs:sy[i]? = some Y0:=by rfl) (hrd:(readB l i x && readB l i y)=true:=by kernel_rfl) (hl:liveB l old sy i κ=true:=by kernel_rfl)
  (hx:∀ f,sev l sy a f x = .pointer (some ⟨adr old f κ,0,none⟩):=by intro f;first|rfl|kernel_rfl) (hy:∀ f,sev l sy a f y = .agg ds:=by intro f;first|rfl|kernel_rfl) (hc:cont l old sy pt i κ=some (cel cs t):=by kernel_rfl):SyAll P Q l T w old sy pt a (o :: r) i :=
 .cons (sy_store κ n hW hg hs rfl rfl ho hrd hl hx hc hpt (fun ob h=>⟨cs,h,hcs⟩) hi fun f _=>⟨ds,hy f,hds,hone,rfl⟩) hr
end
end Go.Proofs.YtodnkallpfkdiaaDoor
namespace Go.Proofs.YtodnkallpfkdiaaDoor
open Go.RowKit
set_option linter.unusedSimpArgs false
set_option linter.unusedVariables false
section
variable {P:Program} {Q:Exit→Act→World→Prop} {T:Nat→Prop} {w:World} {l:List Oper} {old:List (Nat×OP)} {sy:List Sy} {pt:List Put} {a:Act} {r:List Oper} {i:Nat} {o:Oper}
theorem range_of {u:World} {g:Nat} {cs:Array Value} {t:TypeId} {fr:Nat×Nat} (hb:u.heap[g]? = some (.cells cs t fr)) (off:Nat) (ds:List Value) (h:∀ j v,ds[j]? = some v→cs[off+j]? = some v):u.rangeAt g off ds:=fun j v hj=>by
 rw [cell_blk hb]
 exact h j v hj
/-- A load of a part of a block. -/
theorem SyLa (hW:wfB l sy=true) (hr:SyAll P Q l T w old sy pt a r (i+1)) {ty:TypeId} {x:Operand} {ds:Array Value} {d:TypeDesc} (κ off:Nat) (cs:Array Value) (t:TypeId) (hds:∀ j v,ds.toList[j]? = some v→cs[off+j]? = some v) (hu:P.underlying ty=some d) (hd:d.isRow=true) (hi:(P.info? ty).map (·.size)=some ds.size)
  (ho:o.op = .load ty x:=by rfl) (hg:o.guard=none:=by rfl) (hs:sy[i]? = some (Yv (.agg ds)):=by rfl) (hq:quietB sy pt i=true:=by kernel_rfl) (hrd:readB l i x=true:=by kernel_rfl) (hl:liveB l old sy i κ=true:=by kernel_rfl)
  (hx:∀ f,sev l sy a f x = .pointer (some ⟨adr old f κ,off,none⟩):=by intro f;first|rfl|kernel_rfl) (hc:cont l old sy pt i κ=some (cel cs t):=by kernel_rfl):SyAll P Q l T w old sy pt a (o :: r) i :=
 .cons (fun f b u K hJ hf hcl hup hsee hK=>by
  obtain ⟨⟨ob,hob,hpo⟩, -⟩:=hJ.mem.mem κ _ _ (hold_cont hJ hcl hf hup hc hl)
  have hpo:ob = .cells cs t (0,0):=hpo
  subst hpo
  rw [if_pos (wanted_none hg)]
  refine wp_load_mid ty x ho _ off ((sev_is hJ hcl hup hsee hrd).trans (hx f)) ds.toList d (range_of hob off _ hds) hu hd (by rw [Array.length_toList];exact hi) ?_
  rw [Array.toArray_toList]
  exact hK _ _ (hJ.upd hW hcl hf hup hs rfl (by rw [hold_same hf hq];exact hJ.mem) (fun _=>Below.refl _ _) (CL.no rfl))) hr
/-- A told value out of a run that heeds the world, told values given. -/
theorem SyX (hW:wfB l sy=true) (hr:SyAll P Q l T w old sy pt a r (i+1)) {v:Value} (xs:List Operand) (vs:List Value) (h:∀ (ρ:Operand→Value) (u:World),Kept T w u→xs.map ρ=vs→(execOp ρ o).run P u = .ok (.value v) u)
  (he:easy o.op=true:=by rfl) (hrd:o.op.operands.toList.all (readB l i)=true:=by kernel_rfl) (hv:∀ f,xs.map (sev l sy a f)=vs:=by intro f;first|rfl|kernel_rfl) (hg:o.guard=none:=by rfl) (hs:sy[i]? = some (Yv v):=by rfl) (hq:quietB sy pt i=true:=by kernel_rfl):SyAll P Q l T w old sy pt a (o :: r) i :=
 SyV hW hr (fun f u hH _ _ _=>h _ u hH.keep (hv f)) (execOp_congr he) hrd hg hs hq
theorem all_of (ds:Array Value):∀ j v,ds.toList[j]? = some v→ds[0+j]? = some v:=fun j v h=>by rw [Nat.zero_add];simpa using h
theorem kept_below {u u':World} (h:Kept (fun _=>False) u u'):Below u.heap.size u u':=⟨h.os,h.tape,h.output,h.size,fun i hi=>h.block i hi id⟩
end
end Go.Proofs.YtodnkallpfkdiaaDoor
