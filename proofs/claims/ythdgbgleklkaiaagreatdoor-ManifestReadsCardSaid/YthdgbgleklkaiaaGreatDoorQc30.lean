/- A manifest's cells; manifest.Body of a manifest that may be. A copy of. Condition: as each theorem says. -/

import Derived.Test.YthdgbgleklkaiaaGreatDoorQc29
open Go.Lib renaming hid→abC
open Nat renaming le_refl→abD,zero_add→abI,lt_of_lt_of_le→abK
open List renaming length_map→abE,drop_of_length_le→abF,drop_succ_cons→abG,drop_append→abH,getElem?_cons_succ→abL,getElem?_append_right→abM,getElem?_drop→abN,getElem?_map→abO,map_append→abP,all_eq_true→abQ,mem_of_getElem?→abR,length_append→abS
open Option renaming map_some→abJ
set_option linter.unusedSimpArgs false
set_option linter.unusedVariables false
set_option maxRecDepth 100000
set_option maxHeartbeats 16000000
namespace Go.Proofs.YthdgbgleklkaiaaGreatDoor.Mf
open Go.RowKit Lm Fp Cu Sl Sc Ce
def bg (v b:Int) (ro:List Int) (wv:Value) (i:Int) (ks gs ss:List Int):Array Value := #[.int .i64 v, .int .i64 b] ++ arr .u8 ro ++ #[wv, .int .i64 i] ++ arr .u8 ks ++ arr .u8 gs ++ arr .u8 ss
section
variable {v b i:Int} {ro ks gs ss:List Int} {wv:Value}
theorem bP:(bg v b ro wv i ks gs ss).toList = .int .i64 v :: .int .i64 b :: (ro.map (Value.int .u8) ++ wv :: .int .i64 i :: (ks.map (Value.int .u8) ++ (gs.map (Value.int .u8) ++ ss.map (Value.int .u8)))):=by
 simp [bg,arr]
theorem bL (h1:ro.length=32) (h2:ks.length=32) (h3:gs.length=64) (h4:ss.length=64):(bg v b ro wv i ks gs ss).size=196:=by
 rw [← Array.length_toList,bP]
 simp [h1,h2,h3,h4]
theorem aaV {A:Array Value} {L:List Value} (h:A.toList=L) (k:Nat):A[k]? = L[k]? := by rw [← h];simp
theorem rC:(bg v b ro wv i ks gs ss)[0]? = some (.int .i64 v):=by rw [aaV bP];rfl
theorem pq:(bg v b ro wv i ks gs ss)[1]? = some (.int .i64 b):=by rw [aaV bP];rfl
theorem lT (h1:ro.length=32):(bg v b ro wv i ks gs ss)[34]? = some wv:=by
 rw [aaV bP]
 simp only [abL]
 rw [abM (by simp [h1])]
 simp [h1]
theorem tL (h1:ro.length=32):(bg v b ro wv i ks gs ss)[35]? = some (.int .i64 i):=by
 rw [aaV bP]
 simp only [abL]
 rw [abM (by simp [h1])]
 simp [h1]
theorem FJ:((bg v b ro wv i ks gs ss).toList.drop 2).take ro.length=ro.map (Value.int .u8):=by
 rw [bP]
 simp
theorem manC_ks (h1:ro.length=32):((bg v b ro wv i ks gs ss).toList.drop 36).take ks.length=ks.map (Value.int .u8):=by
 rw [bP]
 simp only [abG,abH,abE,h1]
 simp [h1,abF]
theorem manC_gs (h1:ro.length=32) (h2:ks.length=32):((bg v b ro wv i ks gs ss).toList.drop 68).take gs.length=gs.map (Value.int .u8):=by
 rw [bP]
 simp only [abG,abH,abE,h1,h2]
 simp [h1,h2,abF]
theorem yC (h1:ro.length=32) (h2:ks.length=32) (h3:gs.length=64):((bg v b ro wv i ks gs ss).toList.drop 132).take ss.length=ss.map (Value.int .u8):=by
 rw [bP]
 simp only [abG,abH,abE,h1,h2,h3]
 simp [h1,h2,h3,abF,List.take_of_length_le]
end
def iA (v b:Int) (wn:Nat) (i:Int):Bool:=xJ v && (decide (1≤b) && decide (b≤32)) && decide (wn=80) && xJ i
theorem tK {ro ks gs ss:List Int} (v b i:Int) (sw:Option Addr) (nw cw:Nat) (w:World) (h1:ro.length=32) :
  Calls Tryz.prog 45 #[.agg (bg v b ro (.slice sw nw cw) i ks gs ss)] w fun e w'=>e = .returned (.bool (iA v b nw i))∧Below w.heap.size w w':=by
 have c0:(w.alloc (.cells (bg v b ro (.slice sw nw cw) i ks gs ss) 31)).cell? ⟨w.heap.size,0,none⟩=some (.int .i64 v):=by rw [aF (aH w _)];exact rC
 have c1:(w.alloc (.cells (bg v b ro (.slice sw nw cw) i ks gs ss) 31)).cell? ⟨w.heap.size,1,none⟩=some (.int .i64 b):=by rw [aF (aH w _)];exact pq
 have c2:(w.alloc (.cells (bg v b ro (.slice sw nw cw) i ks gs ss) 31)).cell? ⟨w.heap.size,34,none⟩=some (.slice sw nw cw):=by rw [aF (aH w _)];exact lT h1
 have c3:(w.alloc (.cells (bg v b ro (.slice sw nw cw) i ks gs ss) 31)).cell? ⟨w.heap.size,35,none⟩=some (.int .i64 i):=by rw [aF (aH w _)];exact tL h1
 have HB:=abC ((Below.refl _ w).alloc (abD _) (.cells (bg v b ro (.slice sw nw cw) i ks gs ss) 31))
 clear h1
 generalize bg v b ro (.slice sw nw cw) i ks gs ss=M at c0 c1 c2 c3 HB ⊢
 go_enter Tryz.func45, Tryz.ntmps45
 go_upto_region 1 with fail
 generalize w.alloc (.cells M 31)=wb at c0 c1 c2 c3 HB ⊢
 go_wp2_with ((with_reducible show Calls _ 91 _ _ _);go_at_call 91; refine (Ce.tK _ _).mono ?_;rintro e w1 ⟨rfl,rfl⟩)
 all_goals (try simp only [Exit.then])
 all_goals go_ret
 all_goals refine ⟨?_,HB.out⟩
 all_goals congr 2
 all_goals simp only [iA,xJ]
 all_goals clear c0 c1 c2 c3 HB
 all_goals (first|(simp_all;done)|(simp_all;omega)|(simp;omega))
end Go.Proofs.YthdgbgleklkaiaaGreatDoor.Mf
namespace Go.Proofs.YthdgbgleklkaiaaGreatDoor.Mf
open Go.RowKit Lm Fp Cu Sl Sc Ce
def dW (v b:Int) (ro ws:List Int) (i:Int) (ks gs:List Int):List Int:=iH (iH [80,67,77,49] [v,b] ++ ro ++ ws) [i] ++ ks ++ gs
theorem sQ {w:World} {g:Nat} {cs:Array Value} {t:TypeId} {fr:Nat×Nat} (h:w.heap[g]? = some (.cells cs t fr)) (off:Nat) {xs:List Int} (hp:(cs.toList.drop off).take xs.length=xs.map (Value.int .u8)):Src w (some ⟨g,off,none⟩) xs.length xs:=by
 refine ⟨rfl,fun i hi=>⟨_,rfl,?_⟩⟩
 rw [Addr.add_lit,aF h]
 have h2:=congrArg (fun l=>l[i]?) hp
 simp only [List.getElem?_take,hi,if_true,abN,abO] at h2
 simpa [List.getD,hi] using h2
theorem VT (w:World) (x y:Int):Br (w.alloc (.cells #[.int .i64 x, .int .i64 y] 3)) (some ⟨w.heap.size,0,none⟩) 2 [x,y]:=by
 refine ⟨rfl,fun i hi=>⟨_,rfl,?_⟩⟩
 have:i=0∨i=1:=by omega
 rcases this with rfl|rfl
 ·rw [show (⟨w.heap.size,0,none⟩:Addr).add 0=⟨w.heap.size,0,none⟩ from rfl,aF (aH w _)]
  rfl
 ·rw [Addr.add_lit,aF (aH w _)]
  rfl
end Go.Proofs.YthdgbgleklkaiaaGreatDoor.Mf
namespace Go.Proofs.YthdgbgleklkaiaaGreatDoor.Rd
open Go.RowKit Lm Fp Cu Sc
theorem uQ {w:World} {ops:Array Oper} {o:Oper} {a:Act} {K:Act→World→Prop} {Q:Exit→Act→World→Prop} {E:Prop} (hgd:o.guard=none) (d s:Operand)
  (ho:o.op = .call { callee := .builtin .copy,args := #[d,s],argTypes := #[22, 22] }) (g off m c cs:Nat) (ad:Addr) (cur xs:List Int) (t:TypeId)
  (hd:a.eval d = .slice (some ⟨g,off,none⟩) m c) (hs:a.eval s = .slice (some ad) m cs) (hg:w.heap[g]? = some (.cells (arr .u8 cur) t (0,0))) (hsrc:Src w (some ad) m xs) (hfit:off+m≤cur.length)
  (h:∀ w',w'.heap[g]? = some (.cells (arr .u8 (cur.take off ++ xs ++ cur.drop (off+m))) t (0,0))→Kept (fun x=>x=g) w w'→K (a.put o.dst (.int .i64 (m:Int))) w') :
  if Region.wanted o (yielded ops a.tmps)=true then Oper.wp Tryz.prog o a w K Q else E:=by
 have hw:Region.wanted o (yielded ops a.tmps)=true:=by simp [Region.wanted,hgd]
 rw [if_pos hw]
 have hl:=hsrc.len
 have hrun:=run_copy_row (P := Tryz.prog) w 22 22 o.type 5 g off m c ad m cs (arr .u8 cur) t (xs.map (Value.int .u8)) Tryz.underlying22 (by kernel_rfl) hg (by simp [hl]) (jq hsrc _ rfl) (by rw [abE,hl,aD];exact hfit) (mQ _ _)
 unfold Oper.wp execOp
 simp only [ho,resolve,invoke,builtin,Sem.run_bind,Sem.run_pure,Result.andThen_ok,List.map_toArray,List.map_cons,List.map_nil,hd,hs,hrun]
 have e:((arr .u8 cur).toList.take off ++ xs.map (Value.int .u8) ++ (arr .u8 cur).toList.drop (off+(xs.map (Value.int .u8)).length)).toArray=arr .u8 (cur.take off ++ xs ++ cur.drop (off+m)):=by
  show ((cur.map (Value.int .u8)).take off ++ xs.map (Value.int .u8) ++ (cur.map (Value.int .u8)).drop (off+(xs.map (Value.int .u8)).length)).toArray=((cur.take off ++ xs ++ cur.drop (off+m)).map (Value.int .u8)).toArray
  rw [abE,hl,abP,abP,List.map_take,List.map_drop]
 rw [e,abE,hl]
 exact h _ (setRow_heap w g _ _ t _ hg) ⟨rfl,rfl,rfl,by simp [World.setRow],fun k _ hne=>setRow_other w g k _ hne⟩
theorem RX {w:World} {g:Nat} {t:TypeId} {fr:Nat×Nat} {s1 s2 s3:Option Addr} {n1 n2 n3 c1 c2 c3:Nat} {x1 x2 x3:List Int} (h:w.heap[g]? = some (.cells #[.slice s1 n1 c1, .slice s2 n2 c2, .slice s3 n3 c3] t fr))
  (h1:Src w s1 n1 x1) (h2:Src w s2 n2 x2) (h3:Src w s3 n3 x3) (l1:n1≤c1) (l2:n2≤c2) (l3:n3≤c3):om w (some ⟨g,0,none⟩) 3 [x1,x2,x3]:=by
 have e1:=h1.len
 have e2:=h2.len
 have e3:=h3.len
 subst e1 e2 e3
 refine ⟨rfl,fun i hi=>?_⟩
 match i,hi with
 | 0,_=>exact ⟨_,s1,c1,rfl,by rw [show (⟨g,0,none⟩:Addr).add 0=⟨g,0,none⟩ from rfl,aF h];rfl,l1,h1⟩
 | 1,_=>exact ⟨_,s2,c2,rfl,by rw [show (⟨g,0,none⟩:Addr).add 1=⟨g,1,none⟩ from rfl,aF h];rfl,l2,h2⟩
 | 2,_=>exact ⟨_,s3,c3,rfl,by rw [show (⟨g,0,none⟩:Addr).add 2=⟨g,2,none⟩ from rfl,aF h];rfl,l3,h3⟩
theorem copied {cur xs:List Int} {n:Nat} (h1:cur.length=n) (h2:xs.length=n):cur.take 0 ++ xs ++ cur.drop (0+n)=xs:=by
 rw [List.take_zero,List.nil_append,abI,abF (by omega),List.append_nil]
end Go.Proofs.YthdgbgleklkaiaaGreatDoor.Rd
namespace Go.Proofs.YthdgbgleklkaiaaGreatDoor
open Go.RowKit
section
end
section
variable {P:Program} {Q:Exit→Act→World→Prop}
theorem xD {id:Nat} {a:Act} {w:World} {l:List Oper} (J:Fill→World→Prop) (hB:(DF l a.tmps.size && JQ l)=true)
  (h0:J (fun _=>none) w) (hs:dN P Q l J a l 0)
  (hend:∀ f u,(∀ i,i < l.length→(f i).isSome=true)→J f u→Q .normal (laid l 0 f a) u):(Code.region id l.toArray false).wp P Q a w:=by
 refine wp_region_lit ?_
 simp only [DF,Bool.and_eq_true,abQ] at hB
 obtain ⟨⟨hg,hd⟩,hbk⟩:=hB
 have hback:∀ i o,l[i]? = some o→∀ e∈o.after,Region.binds .any e=true→e.on < i:=by
  intro i o ho e he hb
  have hlt:i < l.length:=(List.getElem?_eq_some_iff.1 ho).1
  have h1:=List.all_eq_true.1 hbk i (List.mem_range.2 hlt)
  rw [ho] at h1
  have h2:=Array.all_eq_true_iff_forall_mem.1 h1 e he
  simpa [hb] using h2
 have main:∀ (r:List Oper) (k:Nat) (f:Fill) (u:World),l.drop k=r→(∀ i,(f i).isSome=decide (i < k))→Closed l f→J f u→wpList P l.toArray Q r (laid l 0 f a) u:=by
  intro r
  induction r with
  | nil =>
   intro k f u hr hf hcl hJ
   have hk:l.length≤k:=by simpa using hr
   exact hend f u (fun i hi=>by rw [hf i];exact decide_eq_true (by omega)) hJ
  | cons o r ih =>
   intro k f u hr hf hcl hJ
   have ho:l[k]? = some o:=by
    have h1:(l.drop k)[0]? = some o:=by rw [hr];rfl
    rwa [abN,Nat.add_zero] at h1
   have hr':l.drop (k+1)=r:=by
    have h1:(l.drop k).drop 1=r:=by rw [hr];rfl
    rwa [List.drop_drop] at h1
   have hfk:f k=none:=by
    cases e:f k with
    | none=>rfl
    | some v =>
     have h1:=hf k
     rw [e] at h1
     simp at h1
   have hst:=(by simpa using hs.at k o ho:nA P Q l J a k o)
   have Jt:uy l f a (laid l 0 f a):=by
    refine ⟨fun j oj s v hoj hsj hv=>?_,fun s hs=>?_⟩
    ·refine tQ l 0 f a j oj s v hd hoj hsj ?_ (by simpa using hv)
     have:=hg oj (abR hoj)
     rw [hsj] at this
     exact of_decide_eq_true this
    ·refine pF l 0 f a s (fun o' ho' e=>?_)
     have:=List.all_eq_true.1 hs o' ho'
     simp [e] at this
   have hup:∀ j,dF l k j=true→(f j).isSome=true:=by
    intro j hw
    unfold dF at hw
    rw [ho] at hw
    obtain ⟨e,he,hb⟩:=Array.any_eq_true'.1 hw
    simp only [Bool.and_eq_true,beq_iff_eq] at hb
    have h2:=hback k o ho e he hb.1
    rw [← hb.2,hf]
    exact decide_eq_true h2
   have H:=hst f (laid l 0 f a) u (wpList P l.toArray Q r) hJ hfk hcl hup Jt (fun v u' hJ'=>by
    rw [tO l 0 f a k o v hd ho (by simpa using hfk),abI]
    refine ih (k+1) (f.upd k v) u' hr' (fun i=>?_) (fun j oj hoj hjs e he hb=>?_) hJ'
    ·by_cases e:i=k
     ·subst e
      simp [Fill.upd]
     ·simp only [Fill.upd]
      rw [if_neg e,hf i]
      by_cases h:i < k
      ·rw [decide_eq_true h,decide_eq_true (by omega)]
      ·rw [decide_eq_false h,decide_eq_false (by omega)]
    ·by_cases e2:e.on=k
     ·simp [Fill.upd,e2]
     ·have h3:(f.upd k v e.on)=f e.on:=by simp [Fill.upd,e2]
      rw [h3]
      by_cases e3:j=k
      ·subst e3
       rw [ho] at hoj
       cases hoj
       have h2:=hback j o ho e he hb
       rw [hf]
       exact decide_eq_true h2
      ·have h4:f.upd k v j=f j:=by simp [Fill.upd,e3]
       rw [h4] at hjs
       exact hcl j oj hoj hjs e he hb)
   unfold wpList
   split
   ·rename_i hw
    rw [if_pos hw] at H
    exact .inl H
   ·rename_i hw
    rw [if_neg hw] at H
    exact H
 have h:=main l 0 (fun _=>none) w rfl (fun i=>by simp) (fun i o _ h=>by cases h) h0
 have e0:laid l 0 (fun _=>none) a=a:=by
  have:∀ (l:List Oper) (k:Nat),laid l k (fun _=>none) a=a:=by
   intro l
   induction l with
   | nil=>intro k;rfl
   | cons o l ih=>intro k;simp only [laid];exact ih (k+1)
  exact this l 0
 rw [e0] at h
 exact h
end
section
variable {P:Program} {Q:Exit→Act→World→Prop} {T:Nat→Prop} {w:World} {l:List Oper} {old:List (Nat×OP)} {sy:List Sy} {pt:List Put} {a:Act}
theorem oO {id:Nat} {u0:World} (hB:(DF l a.tmps.size && JQ l && endB l sy pt)=true) (hwf:uK l sy=true)
  (h0:Holds T w u0 fun κ=>old[κ]?) (hs:uK l sy=true→dN P Q l (fun f u=>SJ T w old sy pt f u) a l 0)
  (hend:∀ (g:Nat→Nat) (x:Nat→Value) (u:World),(∀ (k:Nat) (s:Sy) (S:Value→Prop),sy[k]? = some s→s.cl = .soft S→S (x k))→Holds T w u (DT old sy pt g)→Q .normal (lay g x l sy 0 a) u):(Code.region id l.toArray false).wp P Q a u0:=by
 rw [Bool.and_eq_true] at hB
 simp only [endB,Bool.and_eq_true,beq_iff_eq,abQ,decide_eq_true_eq] at hB
 obtain ⟨hB1,⟨hlen,LC⟩,hpt⟩:=hB
 refine xD (fun f u=>SJ T w old sy pt f u) (by rw [hB1.1,hB1.2];rfl) ⟨fun i v h=>by simp at h,?_,fun i v s S h e=>by simp at e⟩ (hs hwf) fun f u hall hJ=>?_
 ·have e:dY old (sy.map Sy.sp) pt (fun _=>none)=fun κ=>old[κ]? := by
   have hn:∀ κ p,gF pt (fun _=>none) κ p=p:=by
    intro κ
    clear hpt hs hend
    induction pt with
    | nil=>intro p;rfl
    | cons e r ih =>
     intro p
     show gF r (fun _=>none) κ (if e.2.1=κ∧(none:Option Value).isSome=true then e.2.2 else p)=p
     rw [if_neg (by simp)]
     exact ih p
   funext κ
   unfold dY jB
   by_cases hlt:κ < old.length
   ·rw [if_pos hlt]
    simp only [hn]
    cases old[κ]? <;> rfl
   ·rw [if_neg hlt,List.getElem?_eq_none (by omega:old.length≤κ)]
    split <;> simp_all
  rw [e]
  exact h0
 ·have hcl:∀ k s,sy[k]? = some s→∃ v,f k=some v∧s.cl.ok f v:=by
   intro k s hk
   obtain ⟨v,hv⟩:=sE (hall k (by rw [← hlen];exact (List.getElem?_eq_some_iff.1 hk).1))
   obtain ⟨s',hs',hok⟩:=hJ.val k v hv
   rw [hk] at hs'
   cases hs'
   exact ⟨v,hv,hok⟩
  rw [Li (g:=fun j=>eX (f j)) (x:=fun j=>(f j).getD undef) l sy 0 a hlen fun i s hi=>?_]
  ·refine hend _ _ _ (fun k s S hk hc=>?_) ?_
   ·obtain ⟨v,hv,hok⟩:=hcl k s hk
    rw [hc] at hok
    simp only [hv,Option.getD_some]
    exact hok
   ·have e:dY old (sy.map Sy.sp) pt f=DT old sy pt (fun j=>eX (f j)):=by
     have hp:∀ κ p,gF pt f κ p=vB pt κ p:=by
      intro κ
      unfold gF vB
      clear hJ hs hend
      induction pt with
      | nil=>intro p;rfl
      | cons e r ih =>
       intro p
       simp only [List.foldl_cons]
       have:=hall e.1 (hpt e (List.mem_cons_self ..))
       have e1:∀ p,(if e.2.1=κ∧(f e.1).isSome=true then e.2.2 else p)=if e.2.1=κ then e.2.2 else p:=by
        intro p
        by_cases h1:e.2.1=κ
        ·rw [if_pos ⟨h1,this⟩,if_pos h1]
        ·rw [if_neg (fun h=>h1 h.1),if_neg h1]
       rw [e1]
       exact ih (fun x hx=>hpt x (List.mem_cons_of_mem _ hx)) _
     funext κ
     unfold dY jB DT
     by_cases hlt:κ < old.length
     ·rw [if_pos hlt,if_pos hlt]
      simp only [hp]
     ·rw [if_neg hlt,if_neg hlt,abO]
      cases hk:sy[κ - old.length]? with
      | none=>rfl
      | some s =>
       obtain ⟨v,hv,hok⟩:=hcl _ _ hk
       simp only [abJ,hv,Option.bind_some,Sy.sp]
       cases ho:s.obj with
       | none=>rfl
       | some p =>
        have h1:=LC s (abR hk)
        rw [ho] at h1
        simp only [Option.isNone_some,Bool.false_or] at h1
        cases hx:s.cl with
        | v y=>simp [hx,CL.pI] at h1
        | soft S=>simp [hx,CL.pI] at h1
        | w S h=>simp [hx,CL.pI] at h1
        | new =>
         rw [hx] at hok
         obtain ⟨g,rfl⟩:=hok
         simp only [o8,abJ,eX,hp]
        | mk n =>
         rw [hx] at hok
         obtain ⟨g,rfl⟩:=hok
         simp only [o8,abJ,eX,hp]
    rw [← e]
    exact hJ.mem
  ·rw [abI]
   obtain ⟨v,hv,hok⟩:=hcl i s hi
   rw [hv]
   unfold Sy.at
   cases hx:s.cl with
   | v y=>rw [hx] at hok;simp only;rw [← QI];exact congrArg some hok
   | soft S=>simp [hv]
   | w S h=>simp [hv]
   | new=>rw [hx] at hok;obtain ⟨g,rfl⟩:=hok;simp [hv,eX]
   | mk n=>rw [hx] at hok;obtain ⟨g,rfl⟩:=hok;simp [hv,eX]
end
end Go.Proofs.YthdgbgleklkaiaaGreatDoor
namespace Go.Proofs.YthdgbgleklkaiaaGreatDoor.Ms
open Go.RowKit Lm Fp Cu Sl Sc Ce
def iW (d:List Int) (v:Int):List Int:=Ha.hash (d ++ jE v)
theorem Ag (d:List Int) (v:Int):(iW d v).length=32:=Ha.dM _
theorem Tq {a b c d:List Int} (v:Int) (w:World) (ha:a.length=32) (hb:b.length=32) (hc:c.length=32) (hd:d.length=32) (bd:bytes d) (hv : -9223372036854775808≤v∧v≤9223372036854775807) (hT:Ha.eP w) :
  Calls Tryz.prog 55 #[.agg (kX a b c d), .int .i64 v] w fun e w'=>e = .returned (.agg (arr .u8 (iW d v)))∧Below w.heap.size w w':=by
 obtain ⟨zn,hzn,HZ,Kj⟩:=zN zero_num
 have hbx:bytes (d ++ jE v):=fun x hx=>by
  rcases List.mem_append.1 hx with h|h
  ·exact bd x h
  ·exact kT v x h
 have M1:=fun u=>gq v u hv
 have M2:=fun sa c u (hs:Src u sa 40 (d ++ jE v)) ht=>Ha.jw sa 40 c (d ++ jE v) u hs hbx (by decide) ht
 have hkl:=Ag d v
 have hke:Ha.hash (d ++ jE v)=iW d v:=rfl
 rw [hke] at M2
 have hbl:=iy v
 generalize iW d v=K at M2 hkl ⊢
 generalize jE v=b8 at M1 M2 hbl
 have hpt:=(uS ha hb hc hd).2.2.2
 generalize kX a b c d=SC at hpt ⊢
 have hs0:Src ((w.alloc (.cells SC 42)).alloc (.cells (arr .u8 zn) 25)) (some ⟨w.heap.size,96,none⟩) d.length d:=Mf.sQ (aY (aH w _) _) 96 hpt
 rw [hd] at hs0
 have HS:=abC hs0
 have yN:Hid (((w.alloc (.cells SC 42)).alloc (.cells (arr .u8 zn) 25)).heap[w.heap.size+1]? = some (.cells (arr .u8 zn) 25 (0,0))):=abC (by have:=aH (w.alloc (.cells SC 42)) (.cells (arr .u8 zn) 25);rwa [World.size_alloc] at this)
 have HB:=abC (((Below.refl _ w).alloc (abD _) (.cells SC 42)).alloc (by simp) (.cells (arr .u8 zn) 25))
 have UG:=abC (fun (u:World) (k:Below w.heap.size w u)=>Ha.eP.kept hT (Kept.of_below (T:=fun _=>False) k) (fun h=>h))
 have Em:=abC M1
 have Ia:=abC M2
 have lH:=abC hkl
 have qM:=abC hbl
 have yQ:=abC hd
 clear M1 M2 hkl hke hbl hpt hs0 ha hb hc hd bd hv hT hbx hzn
 go_enter Tryz.func55, Tryz.ntmps55
 go_upto_region 1 with ((with_reducible refine aS 4 ?_);refine ah rfl 25 rfl _ (HZ.out _) ?_)
 (try simp only [World.size_alloc,Act.put,sA,sZ,sS])
 generalize ((w.alloc (.cells SC 42)).alloc (.cells (arr .u8 zn) 25))=wb at HS yN HB ⊢
 go_wp2_with (first|((with_reducible refine aS 7 ?_);refine aX rfl (.const (.slice none 0 0)) (.tmp 6) rfl wb.heap.size (.slice none 0 0) [] rfl (aU.nil _ _) (some ⟨w.heap.size,96,none⟩) 32 32 d rfl HS.out (by decide) (abD _) ?_;intro v1 w1 how hgr _ _;have HB1:=abC (aZ (aU.nil _ _) hgr (Below.refl _ wb) (abD _));have UR:Hid (aU w1 wb.heap.size v1 d):=abC how;clear how hgr)|((with_reducible show Calls _ 54 _ _ _);go_at_call 54; refine (Em.out _).mono ?_;rintro e w2 ⟨v2,rfl,ho2,hb2⟩;have xV:=abC (UR.out.below hb2);have HB2:=abC (HB1.out.trans (hb2.mono HB1.out.size));obtain ⟨s2,c2,hv2, -, -, hs2, -⟩:=ho2.form;rw [qM.out] at hv2 hs2;subst hv2;have HS2:=abC hs2;clear hs2 ho2 hb2)|((with_reducible refine aS 10 ?_);refine aX rfl (.tmp 7) (.tmp 9) rfl wb.heap.size v1 d rfl xV.out s2 8 c2 b8 rfl HS2.out (by rw [yQ.out];decide) HB2.out.size ?_;intro v3 w3 how hgr _ _;have HB3:=abC (aZ xV.out hgr HB2.out HB2.out.size);obtain ⟨s3,c3,hv3, -, -, hs3, -⟩:=how.form;rw [abS,yQ.out,qM.out] at hv3 hs3;subst hv3;have Ef:=abC hs3;clear hs3 how hgr)|((with_reducible show Calls _ 16 _ _ _);go_at_call 16; refine (Ia.out _ _ _ Ef.out (UG.out _ (HB.out.trans (HB3.out.mono HB.out.size)))).mono ?_;rintro e w4 ⟨rfl,hb4⟩;have ou:=abC (HB.out.trans ((HB3.out.trans (hb4.mono HB3.out.size)).mono HB.out.size));have HR4:=abC (Below.blk (HB3.out.trans (hb4.mono HB3.out.size)) yN.out (aV yN.out));clear hb4)|((with_reducible refine aT 4 ?_);refine au rfl 25 _ _ rfl (w.heap.size+1) _ _ 25 HR4.out rfl rfl (av _ _ lH.out Kj.out) (Sl.bG lH.out) (ak _ _) ?_;intro w5 hb hk hz;have gy:=abC hb;have J4:=abC hk;clear hb hk hz))
 (try simp only [Exit.then])
 refine bodyPost_ret (results_cell_row rfl _ _ (w.heap.size+1) 25 _ (0,0) _ rfl gy.out Tryz.underlying25 rfl (Sl.bG lH.out)) rfl ?_
 exact ⟨rfl,ou.out.trans ⟨J4.out.os,J4.out.tape,J4.out.output,J4.out.size,fun i hi=>J4.out.block i (abK hi ou.out.size) (fun e=>by have e:i=w.heap.size+1:=e;omega)⟩⟩
end Go.Proofs.YthdgbgleklkaiaaGreatDoor.Ms
namespace Go.Proofs.YthdgbgleklkaiaaGreatDoor.Ms
open Go.RowKit Lm Fp Cu Sl
def II (x:List Int):List Int:=Ha.hash (0 :: x)
theorem Sn (x:List Int):(II x).length=32:=Ha.dM _
theorem Iu (w:World) (x:Int) (hx:True):aU (w.alloc (.cells #[.int .u8 x] 5)) w.heap.size (.slice (some ⟨w.heap.size,0,none⟩) 1 1) [x] :=
 ⟨by simp, .inr ⟨w.heap.size,1, #[.int .u8 x],rfl,abD _,aH w _,by simp,by simp [maxLen],rfl,rfl⟩⟩
theorem Si (sa:Option Addr) (c:Nat) (x:List Int) (w:World) (hs:om w sa 1 [x]) (bx:bytes x) (hl:x.length≤1000000) (hT:Ha.eP w) :
  Calls Tryz.prog 60 #[.slice sa 1 c] w fun e w'=>e = .returned (.agg (arr .u8 (II x)))∧Below w.heap.size w w':=by
 obtain ⟨zn,hzn,HZ,Kj⟩:=zN zero_num
 have hbx:bytes (0 :: x):=fun y hy=>by
  rcases List.mem_cons.1 hy with rfl|h
  ·decide
  ·exact bx y h
 have M2:=fun sa c u (hs:Src u sa (1+x.length) (0 :: x)) ht=>Ha.jw sa (1+x.length) c (0 :: x) u hs hbx (by omega) ht
 have hke:Ha.hash (0 :: x)=II x:=rfl
 rw [hke] at M2
 have hkl:=Sn x
 generalize II x=K at M2 hkl ⊢
 obtain ⟨a,s1,c1,rfl,hc, -, hs1⟩:=hs.2 0 (by omega)
 have e0:a.add 0=a:=by cases a with|mk b o i=>cases i <;> rfl
 rw [e0] at hc
 simp only [List.getD_cons_zero] at hc hs1
 have hb1:=(Below.refl _ w).alloc (abD _) (.cells (arr .u8 zn) 25)
 have hb2:=hb1.alloc (by simp) (.cells #[.int .u8 0] 5)
 have yN:Hid ((w.alloc (.cells (arr .u8 zn) 25)).heap[w.heap.size]? = some (.cells (arr .u8 zn) 25 (0,0))):=abC (aH w _)
 have HB:=abC hb1
 have D6:((w.alloc (.cells (arr .u8 zn) 25)).alloc (.cells #[.int .u8 0] 5)).cell? a=some (.slice s1 x.length c1):=by
  exact (Kept.of_below hb2 (T:=fun _=>False)).lV hc id
 have HS:=abC (hs1.below hb2)
 have UG:=abC (fun (u:World) (k:Below w.heap.size w u)=>Ha.eP.kept hT (Kept.of_below (T:=fun _=>False) k) (fun h=>h))
 have Ia:=abC M2
 have lH:=abC hkl
 have jc:=abC hl
 clear M2 hkl hke hb1 hb2 hs hs1 hc e0 hT hbx hzn bx hl
 go_enter Tryz.func60, Tryz.ntmps60
 go_upto_region 1 with ((with_reducible refine aS 2 ?_);refine ah rfl 25 rfl _ (HZ.out _) ?_)
 (try simp only [World.size_alloc,Act.put,sA,sZ,sS])
 generalize w.alloc (.cells (arr .u8 zn) 25)=wb at yN HB D6 HS ⊢
 go_wp2_with (first|((with_reducible refine aS 17 ?_);refine aX rfl (.tmp 13) (.tmp 16) rfl wb.heap.size (.slice (some ⟨wb.heap.size,0,none⟩) 1 1) [0] rfl (Iu wb 0 trivial) s1 x.length c1 x rfl HS.out (by have:=jc.out;simp;omega) (by simp) ?_;intro v3 w3 how hgr _ _;have HB3:=abC (aZ (Iu wb 0 trivial) hgr ((Below.refl _ wb).alloc (abD _) _) (by simp));obtain ⟨s3,c3,hv3, -, -, hs3, -⟩:=how.form;rw [abS,List.length_singleton] at hv3 hs3;subst hv3;have Ef:Hid (Src w3 s3 (1+x.length) (0 :: x)):=abC hs3;clear hs3 how hgr)|((with_reducible show Calls _ 16 _ _ _);go_at_call 16; refine (Ia.out _ _ _ Ef.out (UG.out _ (HB.out.trans (HB3.out.mono HB.out.size)))).mono ?_;rintro e w4 ⟨rfl,hb4⟩;have ou:=abC (HB.out.trans ((HB3.out.trans (hb4.mono HB3.out.size)).mono HB.out.size));have HR4:=abC (Below.blk (HB3.out.trans (hb4.mono HB3.out.size)) yN.out (aV yN.out));clear hb4)|((with_reducible refine aT 2 ?_);refine au rfl 25 _ _ rfl (w.heap.size) _ _ 25 HR4.out rfl rfl (av _ _ lH.out Kj.out) (Sl.bG lH.out) (ak _ _) ?_;intro w5 hb hk hz;have gy:=abC hb;have J4:=abC hk;clear hb hk hz))
 (try simp only [Exit.then])
 all_goals refine bodyPost_ret (results_cell_row rfl _ _ (w.heap.size) 25 _ (0,0) _ rfl gy.out Tryz.underlying25 rfl (Sl.bG lH.out)) rfl ?_
 exact ⟨rfl,ou.out.trans ⟨J4.out.os,J4.out.tape,J4.out.output,J4.out.size,fun i hi=>J4.out.block i (abK hi ou.out.size) (fun e=>by have e:i=w.heap.size:=e;omega)⟩⟩
end Go.Proofs.YthdgbgleklkaiaaGreatDoor.Ms
namespace Go.Proofs.YthdgbgleklkaiaaGreatDoor.Mf
open Go.RowKit Lm Fp Cu Sl Sc Ce
theorem IU (sa:Option Addr) (n c:Nat) (xs:List Int) (w:World) (hs:Src w sa n xs) (hc:n≤c) (bx:bytes xs) (hn:n≤1000000000) :
  Calls Tryz.prog 15 #[.slice sa n c] w fun e w'=>e = .returned (.agg (arr .u8 (Ha.hash xs)))∧Below w.heap.size w w':=by
 obtain ⟨zn,hzn,HZ,Kj⟩:=zN zero_num
 have hl:=hs.len
 have M2:=fun (u:World) (g cc:Nat) (h:om u (some ⟨g,0,none⟩) 1 [xs])=>Ha.sO (some ⟨g,0,none⟩) 1 cc [xs] u h (by intro l hl;rw [List.mem_singleton] at hl;subst hl;exact bx) (by simp;omega) (by decide)
 have hkl:(Ha.hash xs).length=32:=Ha.dM _
 rw [show [xs].flatten=xs by simp] at M2
 generalize Ha.hash xs=K at M2 hkl ⊢
 have hb1:=(Below.refl _ w).alloc (abD _) (.cells (arr .u8 zn) 25)
 have yN:Hid ((w.alloc (.cells (arr .u8 zn) 25)).heap[w.heap.size]? = some (.cells (arr .u8 zn) 25 (0,0))):=abC (aH w _)
 have HB:=abC hb1
 have HS:=abC (Ua (hs.below hb1) hc)
 have Ia:=abC M2
 have lH:=abC hkl
 clear M2 hkl hb1 hs hzn bx hn hl hc
 go_enter Tryz.func15, Tryz.ntmps15
 go_upto_region 1 with ((with_reducible refine aS 2 ?_);refine ah rfl 25 rfl _ (HZ.out _) ?_)
 (try simp only [World.size_alloc,Act.put,sA,sZ,sS])
 generalize w.alloc (.cells (arr .u8 zn) 25)=wb at yN HB HS ⊢
 go_wp2_with (first|((with_reducible show Calls _ 51 _ _ _);go_at_call 51; refine (Ia.out _ _ _ HS.out).mono ?_;rintro e w4 ⟨rfl,hb4⟩;have hb5:=((Below.refl _ wb).alloc (abD _) (.cells #[.slice sa n c] 22)).trans (hb4.mono (by simp));have ou:=abC (HB.out.trans (hb5.mono HB.out.size));have HR4:=abC (Below.blk hb5 yN.out (aV yN.out));clear hb4 hb5)|((with_reducible refine aT 2 ?_);refine au rfl 25 _ _ rfl (w.heap.size) _ _ 25 HR4.out rfl rfl (av _ _ lH.out Kj.out) (Sl.bG lH.out) (ak _ _) ?_;intro w5 hb hk hz;have gy:=abC hb;have J4:=abC hk;clear hb hk hz))
 (try simp only [Exit.then])
 refine bodyPost_ret (results_cell_row rfl _ _ (w.heap.size) 25 _ (0,0) _ rfl gy.out Tryz.underlying25 rfl (Sl.bG lH.out)) rfl ?_
 exact ⟨rfl,ou.out.trans ⟨J4.out.os,J4.out.tape,J4.out.output,J4.out.size,fun i hi=>J4.out.block i (abK hi ou.out.size) (fun e=>by have e:i=w.heap.size:=e;omega)⟩⟩
end Go.Proofs.YthdgbgleklkaiaaGreatDoor.Mf
