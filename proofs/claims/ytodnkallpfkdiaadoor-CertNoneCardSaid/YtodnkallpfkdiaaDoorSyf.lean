/- A region of which the operations come in their listed order, told in symbols. Over any program; no condition. -/
import Derived.Test.YtodnkallpfkdiaaDoorSy
namespace Go.Proofs.YtodnkallpfkdiaaDoor
open Go.RowKit
set_option linter.unusedSimpArgs false
set_option linter.unusedVariables false
/-- The guard's value is known: is the operation wanted? -/
def gF (l:List Oper) (sy:List Sy) (i:Nat) (o:Oper):Option Bool:=match o.guard with
 | some (j,false)=>if ((anc l).getD i 0).testBit j && ((l[j]?).bind (·.dst)).isSome then (match ((sy[j]?).map Sy.cl:Option CL) with|some (CL.v (SV.c (Value.bool c)))=>some (!c)|_=>none) else none
 | _=>none
section
variable {P:Program} {Q:Exit→Act→World→Prop} {T:Nat→Prop} {w:World} {l:List Oper} {old:List (Nat×OP)} {sy:List Sy} {pt:List Put} {a:Act} {r:List Oper} {i:Nat} {o:Oper}
theorem gF_is {f:Fill} {b:Act} {u:World} (hJ:SJ T w old sy pt f u) (hc:Closed l f) (hu:∀ j,waitsOn l i j=true→(f j).isSome=true) (hsee:Sees l f a b) {c:Bool} (h:gF l sy i o=some c):Region.wanted o (yielded l.toArray b.tmps)=c:=by
 unfold gF at h
 split at h
 ·rename_i j hg
  split at h
  ·rename_i h1
   simp only [Bool.and_eq_true] at h1
   obtain ⟨h1,h2⟩:=h1
   obtain ⟨s,hs⟩:=sE h2
   split at h
   ·rename_i c' hcl
    cases h
    obtain ⟨v,hv⟩:=sE ((anc_is h1).up hc hu)
    obtain ⟨s',hs',hok⟩:=hJ.val j v hv
    rw [hs'] at hcl
    simp only [Option.map_some,Option.some.injEq] at hcl
    rw [hcl] at hok
    have hok:v = .bool c':=hok
    have e:b.eval (.tmp s)=v:=hsee.val j s hs hv
    rw [hok] at e
    have h3:b.tmps[s]? = some (.bool c'):=by
     have h4:b.tmps.getD s undef = .bool c':=e
     rw [Array.getD_eq_getD_getElem?] at h4
     cases h5:b.tmps[s]? with
     | none=>rw [h5] at h4;cases h4
     | some v=>rw [h5] at h4;rw [show v = .bool c' from h4]
    have h6:yielded l.toArray b.tmps j=some c':=by
     unfold yielded
     rw [show (l.toArray[j]?).bind (·.dst)=some s by simpa using hs]
     simp [h3]
    cases c' <;> simp [Region.wanted,hg,h6]
   ·cases h
  ·cases h
 ·cases h
/-- A guarded operation that is wanted is as one without a guard. -/
theorem SyUf (hr:SyAll P Q l T w old sy pt a ({ o with guard:=none } :: r) i) (hg:gF l sy i o=some true:=by kernel_rfl):SyAll P Q l T w old sy pt a (o :: r) i :=
 ⟨fun f b u K hJ hf hc hu hsee hK=>by
  have h:=hr.1 f b u K hJ hf hc hu hsee hK
  rw [if_pos (wanted_none rfl)] at h
  rw [if_pos (gF_is hJ hc hu hsee hg)]
  exact h,hr.2⟩
/-- One that is not wanted. -/
theorem SyKf (hW:wfB l sy=true) (hr:SyAll P Q l T w old sy pt a r (i+1)) (hg:gF l sy i o=some false:=by kernel_rfl) (hs:sy[i]? = some (Yv undef):=by rfl) (hq:quietB sy pt i=true:=by kernel_rfl):SyAll P Q l T w old sy pt a (o :: r) i :=
 .cons (fun f b u K hJ hf hc hu hsee hK=>by
  rw [if_neg (by rw [gF_is hJ hc hu hsee hg];decide)]
  exact hK undef u (hJ.upd hW hc hf hu hs rfl (by rw [hold_same hf hq];exact hJ.mem) (fun _=>Below.refl _ _) (CL.no rfl))) hr
end
section
variable {P:Program} {Q:Exit→Act→World→Prop}
theorem wp_region_lingF {id:Nat} {a:Act} {w:World} {l:List Oper} (J:Fill→World→Prop) (hB:(linB2 l a.tmps.size && backB l)=true)
  (h0:J (fun _=>none) w) (hs:LinAllG P Q l J a l 0)
  (hend:∀ f u,(∀ i,i < l.length→(f i).isSome=true)→J f u→Q .normal (laid l 0 f a) u):(Code.region id l.toArray false).wp P Q a w:=by
 refine wp_region_lit ?_
 simp only [linB2,Bool.and_eq_true,List.all_eq_true] at hB
 obtain ⟨⟨hg,hd⟩,hbk⟩:=hB
 have hback:∀ i o,l[i]? = some o→∀ e∈o.after,Region.binds .any e=true→e.on < i:=by
  intro i o ho e he hb
  have hlt:i < l.length:=(List.getElem?_eq_some_iff.1 ho).1
  have h1:=List.all_eq_true.1 hbk i (List.mem_range.2 hlt)
  rw [ho] at h1
  have h2:=Array.all_eq_true_iff_forall_mem.1 h1 e he
  simpa [hb] using h2
 have main:∀ (r:List Oper) (k:Nat) (f:Fill) (u:World),l.drop k=r→(∀ i,(f i).isSome=decide (i < k))→Closed l f→J f u→wpList P l.toArray Q r (laid l 0 f a) u:=by
  intro r
  induction r with
  | nil =>
   intro k f u hr hf hcl hJ
   have hk:l.length≤k:=by simpa using hr
   exact hend f u (fun i hi=>by rw [hf i];exact decide_eq_true (by omega)) hJ
  | cons o r ih =>
   intro k f u hr hf hcl hJ
   have ho:l[k]? = some o:=by
    have h1:(l.drop k)[0]? = some o:=by rw [hr];rfl
    rwa [List.getElem?_drop,Nat.add_zero] at h1
   have hr':l.drop (k+1)=r:=by
    have h1:(l.drop k).drop 1=r:=by rw [hr];rfl
    rwa [List.drop_drop] at h1
   have hfk:f k=none:=by
    cases e:f k with
    | none=>rfl
    | some v =>
     have h1:=hf k
     rw [e] at h1
     simp at h1
   have hst:=(by simpa using hs.at k o ho:LinStepG P Q l J a k o)
   have hsees:Sees l f a (laid l 0 f a):=by
    refine ⟨fun j oj s v hoj hsj hv=>?_,fun s hs=>?_⟩
    ·refine laid_new l 0 f a j oj s v hd hoj hsj ?_ (by simpa using hv)
     have:=hg oj (List.mem_of_getElem? hoj)
     rw [hsj] at this
     exact of_decide_eq_true this
    ·refine laid_old l 0 f a s (fun o' ho' e=>?_)
     have:=List.all_eq_true.1 hs o' ho'
     simp [e] at this
   have hup:∀ j,waitsOn l k j=true→(f j).isSome=true:=by
    intro j hw
    unfold waitsOn at hw
    rw [ho] at hw
    obtain ⟨e,he,hb⟩:=Array.any_eq_true'.1 hw
    simp only [Bool.and_eq_true,beq_iff_eq] at hb
    have h2:=hback k o ho e he hb.1
    rw [← hb.2,hf]
    exact decide_eq_true h2
   have H:=hst f (laid l 0 f a) u (wpList P l.toArray Q r) hJ hfk hcl hup hsees (fun v u' hJ'=>by
    rw [laid_upd l 0 f a k o v hd ho (by simpa using hfk),Nat.zero_add]
    refine ih (k+1) (f.upd k v) u' hr' (fun i=>?_) (fun j oj hoj hjs e he hb=>?_) hJ'
    ·by_cases e:i=k
     ·subst e
      simp [Fill.upd]
     ·simp only [Fill.upd]
      rw [if_neg e,hf i]
      by_cases h:i < k
      ·rw [decide_eq_true h,decide_eq_true (by omega)]
      ·rw [decide_eq_false h,decide_eq_false (by omega)]
    ·by_cases e2:e.on=k
     ·simp [Fill.upd,e2]
     ·have h3:(f.upd k v e.on)=f e.on:=by simp [Fill.upd,e2]
      rw [h3]
      by_cases e3:j=k
      ·subst e3
       rw [ho] at hoj
       cases hoj
       have h2:=hback j o ho e he hb
       rw [hf]
       exact decide_eq_true h2
      ·have h4:f.upd k v j=f j:=by simp [Fill.upd,e3]
       rw [h4] at hjs
       exact hcl j oj hoj hjs e he hb)
   unfold wpList
   split
   ·rename_i hw
    rw [if_pos hw] at H
    exact .inl H
   ·rename_i hw
    rw [if_neg hw] at H
    exact H
 have h:=main l 0 (fun _=>none) w rfl (fun i=>by simp) (fun i o _ h=>by cases h) h0
 have e0:laid l 0 (fun _=>none) a=a:=by
  have:∀ (l:List Oper) (k:Nat),laid l k (fun _=>none) a=a:=by
   intro l
   induction l with
   | nil=>intro k;rfl
   | cons o l ih=>intro k;simp only [laid];exact ih (k+1)
  exact this l 0
 rw [e0] at h
 exact h
end
section
variable {P:Program} {Q:Exit→Act→World→Prop} {T:Nat→Prop} {w:World} {l:List Oper} {old:List (Nat×OP)} {sy:List Sy} {pt:List Put} {a:Act}
theorem wp_region_symF {id:Nat} {u0:World} (hB:(linB2 l a.tmps.size && backB l && endB l sy pt)=true) (hwf:wfB l sy=true)
  (h0:Holds T w u0 fun κ=>old[κ]?) (hs:wfB l sy=true→LinAllG P Q l (fun f u=>SJ T w old sy pt f u) a l 0)
  (hend:∀ (g:Nat→Nat) (x:Nat→Value) (u:World),(∀ (k:Nat) (s:Sy) (S:Value→Prop),sy[k]? = some s→s.cl = .soft S→S (x k))→Holds T w u (endAt old sy pt g)→Q .normal (lay g x l sy 0 a) u):(Code.region id l.toArray false).wp P Q a u0:=by
 rw [Bool.and_eq_true] at hB
 simp only [endB,Bool.and_eq_true,beq_iff_eq,List.all_eq_true,decide_eq_true_eq] at hB
 obtain ⟨hB1,⟨hlen,hobj⟩,hpt⟩:=hB
 refine wp_region_lingF (fun f u=>SJ T w old sy pt f u) (by rw [hB1.1,hB1.2];rfl) ⟨fun i v h=>by simp at h,?_,fun i v s S h e=>by simp at e⟩ (hs hwf) fun f u hall hJ=>?_
 ·have e:holdAt old (sy.map Sy.sp) pt (fun _=>none)=fun κ=>old[κ]? := by
   have hn:∀ κ p,putOn pt (fun _=>none) κ p=p:=by
    intro κ
    clear hpt hs hend
    induction pt with
    | nil=>intro p;rfl
    | cons e r ih =>
     intro p
     show putOn r (fun _=>none) κ (if e.2.1=κ∧(none:Option Value).isSome=true then e.2.2 else p)=p
     rw [if_neg (by simp)]
     exact ih p
   funext κ
   unfold holdAt baseAt
   by_cases hlt:κ < old.length
   ·rw [if_pos hlt]
    simp only [hn]
    cases old[κ]? <;> rfl
   ·rw [if_neg hlt,List.getElem?_eq_none (by omega:old.length≤κ)]
    split <;> simp_all
  rw [e]
  exact h0
 ·have hcl:∀ k s,sy[k]? = some s→∃ v,f k=some v∧s.cl.ok f v:=by
   intro k s hk
   obtain ⟨v,hv⟩:=sE (hall k (by rw [← hlen];exact (List.getElem?_eq_some_iff.1 hk).1))
   obtain ⟨s',hs',hok⟩:=hJ.val k v hv
   rw [hk] at hs'
   cases hs'
   exact ⟨v,hv,hok⟩
  rw [lay_is (g:=fun j=>blkOf (f j)) (x:=fun j=>(f j).getD undef) l sy 0 a hlen fun i s hi=>?_]
  ·refine hend _ _ _ (fun k s S hk hc=>?_) ?_
   ·obtain ⟨v,hv,hok⟩:=hcl k s hk
    rw [hc] at hok
    simp only [hv,Option.getD_some]
    exact hok
   ·have e:holdAt old (sy.map Sy.sp) pt f=endAt old sy pt (fun j=>blkOf (f j)):=by
     have hp:∀ κ p,putOn pt f κ p=endPut pt κ p:=by
      intro κ
      unfold putOn endPut
      clear hJ hs hend
      induction pt with
      | nil=>intro p;rfl
      | cons e r ih =>
       intro p
       simp only [List.foldl_cons]
       have:=hall e.1 (hpt e (List.mem_cons_self ..))
       have e1:∀ p,(if e.2.1=κ∧(f e.1).isSome=true then e.2.2 else p)=if e.2.1=κ then e.2.2 else p:=by
        intro p
        by_cases h1:e.2.1=κ
        ·rw [if_pos ⟨h1,this⟩,if_pos h1]
        ·rw [if_neg (fun h=>h1 h.1),if_neg h1]
       rw [e1]
       exact ih (fun x hx=>hpt x (List.mem_cons_of_mem _ hx)) _
     funext κ
     unfold holdAt baseAt endAt
     by_cases hlt:κ < old.length
     ·rw [if_pos hlt,if_pos hlt]
      simp only [hp]
     ·rw [if_neg hlt,if_neg hlt,List.getElem?_map]
      cases hk:sy[κ - old.length]? with
      | none=>rfl
      | some s =>
       obtain ⟨v,hv,hok⟩:=hcl _ _ hk
       simp only [Option.map_some,hv,Option.bind_some,Sy.sp]
       cases ho:s.obj with
       | none=>rfl
       | some p =>
        have h1:=hobj s (List.mem_of_getElem? hk)
        rw [ho] at h1
        simp only [Option.isNone_some,Bool.false_or] at h1
        cases hx:s.cl with
        | v y=>simp [hx,CL.isNew] at h1
        | soft S=>simp [hx,CL.isNew] at h1
        | w S h=>simp [hx,CL.isNew] at h1
        | new =>
         rw [hx] at hok
         obtain ⟨g,rfl⟩:=hok
         simp only [ptrObj,Option.map_some,blkOf,hp]
        | mk n =>
         rw [hx] at hok
         obtain ⟨g,rfl⟩:=hok
         simp only [ptrObj,Option.map_some,blkOf,hp]
    rw [← e]
    exact hJ.mem
  ·rw [Nat.zero_add]
   obtain ⟨v,hv,hok⟩:=hcl i s hi
   rw [hv]
   unfold Sy.at
   cases hx:s.cl with
   | v y=>rw [hx] at hok;simp only;rw [← den_den];exact congrArg some hok
   | soft S=>simp [hv]
   | w S h=>simp [hv]
   | new=>rw [hx] at hok;obtain ⟨g,rfl⟩:=hok;simp [hv,blkOf]
   | mk n=>rw [hx] at hok;obtain ⟨g,rfl⟩:=hok;simp [hv,blkOf]
end
end Go.Proofs.YtodnkallpfkdiaaDoor
