/- shb.schedule: shb.turn: shb.Sum: portcullisref1.Join: Lists of lists o. Condition: as each theorem says. -/
import Derived.BigRegion
import Derived.OwnWalkIn
import Derived.Test.YthdgbgleklkaiaaGreatDoorQc05
open Go.Lib renaming hid→abC
open Nat renaming le_trans→abD,le_refl→abE
open List renaming replicate→abF,getD→abG,eq_nil_of_length_eq_zero→abH,getElem?_take→abJ,getElem?_eq_none→abK
set_option linter.unusedSimpArgs false
set_option linter.unusedVariables false
set_option maxRecDepth 100000
set_option maxHeartbeats 16000000
namespace Go.Proofs.YthdgbgleklkaiaaGreatDoor.Hb
open Go.RowKit
theorem bq (k:IntKind) (xs:List Int) (i:Nat) (v:Int):(arr k xs).setIfInBounds i (.int k v)=arr k (xs.set i v):=by
 unfold arr
 rw [xH,List.map_set]
theorem aJ {w:World} {g:Nat} {k:IntKind} {xs:List Int} {t:TypeId} {fr:Nat×Nat} (h:w.heap[g]? = some (.cells (arr k xs) t fr)) (i:Nat) (hi:i < xs.length):w.cell? ⟨g,i,none⟩=some (.int k (xs.getD i 0)):=by
 rw [aF h,uq _ _ _ hi]
theorem bJ {w:World} {g:Nat} {k:IntKind} {xs:List Int} {t:TypeId} (h:w.heap[g]? = some (.cells (arr k xs) t (0,0))) (i:Nat) (v:Int):(w.setCell ⟨g,i,none⟩ (.int k v)).heap[g]? = some (.cells (arr k (xs.set i v)) t (0,0)):=by
 rw [aQ h,bq]
theorem byte_at {b:List Int} (hb:∀ x∈b,0≤x∧x≤255) (j:Nat):0≤b.getD j 0∧b.getD j 0≤255:=by
 simp only [abG]
 cases e:b[j]? with
 | none=>simp
 | some y=>simpa using hb y (List.mem_of_getElem? e)
end Go.Proofs.YthdgbgleklkaiaaGreatDoor.Hb
namespace Go.Proofs.YthdgbgleklkaiaaGreatDoor.Hb
open Go.RowKit
theorem CX (w:World):(zeroValue 202).run Tryz.prog w = .ok (.agg (arr .u64 (abF 8 0))) w:=by kernel_rfl
theorem pE {a0 a1 a2 a3 a4 a5 a6 a7 b0 b1 b2 b3 b4 b5 b6 b7:Int} (h0:a0=b0) (h1:a1=b1) (h2:a2=b2) (h3:a3=b3) (h4:a4=b4) (h5:a5=b5) (h6:a6=b6) (h7:a7=b7) :
  [a0,a1,a2,a3,a4,a5,a6,a7]=[b0,b1,b2,b3,b4,b5,b6,b7]:=by
 subst h0 h1 h2 h3 h4 h5 h6 h7
 rfl
theorem JA (a b:Int):IntKind.u64.wrap (a+b)=add a b:=rfl
theorem iT {P:Program} {ops:Array Oper} {rest:List Oper} {o:Oper} {a:Act} {w:World} {Q:Exit→Act→World→Prop} (hgd:o.guard=none) (ty:TypeId) (x y:Operand) (ho:o.op = .store ty x y)
  (g:Nat) (k:IntKind) (ys:List Int) (t:TypeId) (hb:w.heap[g]? = some (.cells (arr k ys) t (0,0))) (hx:a.eval x = .pointer (some ⟨g,0,none⟩)) (a0 a1 a2 a3 a4 a5 a6 a7:Int)
  (hy:a.eval y = .agg #[Value.int k a0, .int k a1, .int k a2, .int k a3, .int k a4, .int k a5, .int k a6, .int k a7]) (hl:ys.length=8) (hi:(P.info? ty).map (·.size)=some 8)
  (h:∀ w',w'.heap[g]? = some (.cells (arr k [a0,a1,a2,a3,a4,a5,a6,a7]) t (0,0))→Kept (fun i=>i=g) w w'→w'.heap.size=w.heap.size→wpList P ops Q rest (a.put o.dst undef) w') :
  wpList P ops Q (o :: rest) a w:=by
 refine au hgd ty x y ho g (arr k ys) (arr k [a0,a1,a2,a3,a4,a5,a6,a7]) t hb hx hy ?_ ?_ (ak _ _) h
 ·rw [aD,aD,hl];rfl
 ·rw [aD];exact hi
end Go.Proofs.YthdgbgleklkaiaaGreatDoor.Hb
namespace Go.Proofs.YthdgbgleklkaiaaGreatDoor.Hb
open Go.RowKit
theorem nE (w:World):(zeroValue 27).run Tryz.prog w = .ok (.agg (arr .u8 (abF 64 0))) w:=by kernel_rfl
theorem nM:(Tryz.prog.info? 27).map (·.size)=some 64:=by kernel_rfl
structure iQ (w wr:World) (p:Nat) (s:S) (T:Int):Prop where
 st:bE wr p s.h s.b s.n T
 ok:s.Ok
 res:wr.heap[w.heap.size]? = some (.cells (arr .u8 (abF 64 0)) 27 (0,0))
 below:Below w.heap.size w wr
 ne:w.heap.size < p
theorem iQ.take {w wr w':World} {p:Nat} {s:S} {T x:Int} (h:iQ w wr p s T) (hx:0≤x∧x≤255) (st:bE w' p (s.take x).h (s.take x).b (s.take x).n T) (k:Kept (fun i=>i=p) wr w'):iQ w w' p (s.take x) T :=
 ⟨st,h.ok.take x hx,k.blk h.res (by have:=h.ne;omega),h.below.trans (k.toBelow h.below.size (by rintro i rfl;have:=h.ne;omega)),h.ne⟩
theorem iQ.long {w wr:World} {p:Nat} {s:S} {T:Int} (h:iQ w wr p s T) (x:Int):iQ w (wr.setCell ⟨p,217,none⟩ (.int .u64 x)) p s x :=
 ⟨h.st.Wd x,h.ok,ay h.res _ (by have:=h.ne;omega),h.below.setCell (p:=⟨p,217,none⟩) (by have:=h.ne;show w.heap.size≤p;omega) _,h.ne⟩
theorem iQ.alloc {w wr:World} {p:Nat} {s:S} {T:Int} (h:iQ w wr p s T) (o:Obj):iQ w (wr.alloc o) p s T:=⟨h.st.alloc o,h.ok,aY h.res o,h.below.alloc h.below.size o,h.ne⟩
theorem iQ.far {w wr:World} {p g:Nat} {s:S} {T:Int} (h:iQ w wr p s T) (i:Nat) (v:Value) (hg:g≠p) (hw:w.heap.size < g):iQ w (wr.setCell ⟨g,i,none⟩ v) p s T :=
 ⟨h.st.kept ((Kept.refl (fun x=>x=g) wr).at i v) (fun e=>hg e.symm),h.ok,ay h.res _ (by omega),h.below.setCell (p:=⟨g,i,none⟩) (by show w.heap.size≤g;omega) _,h.ne⟩
theorem yI (h:List Int) (i:Nat) (hi:i < 64) (v:Int) (hv:v=(digest h).getD i 0):((digest h).take i ++ abF (64 - i) 0).set i v=(digest h).take (i+1) ++ abF (64 - (i+1)) 0:=by
 have hl:(digest h).length=64:=by simp [digest]
 rw [gD _ i 0 (by omega),← hv,List.set_append_right _ _ (by simp;omega),show 64 - i=(64 - (i+1))+1 by omega,List.replicate_succ]
 simp [hl,Nat.min_eq_left (Nat.le_of_lt hi)]
theorem dn (h:List Int) (i:Nat) (hi:i < 64):(digest h).getD i 0=h.getD (i / 8) 0 / 2 ^ (8 * (7 - i % 8)) % 256:=by simp [digest,abG,hi]
end Go.Proofs.YthdgbgleklkaiaaGreatDoor.Hb
namespace Go.Proofs.YthdgbgleklkaiaaGreatDoor
open Go.RowKit
theorem Xv (sa:Option Addr) (n c:Nat) (L:List (List Int)) (w:World) (hs:om w sa n L) (hN:L.flatten.length≤1099511627776) (hn:n≤1099511627776) :
  Calls Tryz.prog 161 #[.slice sa n c] w fun e w'=>∃ v,e = .returned v∧aU w' w.heap.size v L.flatten∧Below w.heap.size w w':=by
 have hl:=hs.len
 have HS:=abC hs
 have HL:=abC hl
 clear hs hl
 go_enter Tryz.func161, Tryz.ntmps161
 go_wp2_with fail
 go_loopw [3,4] (fun v i wr=>∃ j:Nat,j≤n∧i = .int .i64 j∧aU wr w.heap.size v (L.take j).flatten∧Below w.heap.size w wr) (fun _ i _=>n - (intOf i).toNat)
 case atStart=>exact ⟨0,Nat.zero_le _,rfl,aU.nil _ _,Below.refl _ _⟩
 case round =>
  obtain ⟨j,hj,rfl,hO,hB⟩:=hrel
  by_cases hlt:j < n
  ·obtain ⟨a,si,ci,rfl,hc,hci,hsi⟩:=HS.out.cell j hlt
   have x0:=eD hB hc
   have hsi':=hsi.below hB
   have hfl:=QF L j (by rw [HL.out];exact hlt)
   have HFS:=abC (vk L j (by rw [HL.out];exact hlt))
   obtain ⟨va,vc,hv, -⟩:=hO.form
   obtain ⟨T,hT⟩:∃ T,T=(L.take j).flatten:=⟨_,rfl⟩
   obtain ⟨l,hlj⟩:∃ l,l=L.getD j []:=⟨_,rfl⟩
   rw [← hlj] at x0 hci hsi' hfl HFS
   rw [← hT] at hO hv hfl HFS
   subst hv
   obtain ⟨m,hm⟩:∃ m,m=l.length:=⟨_,rfl⟩
   obtain ⟨t,ht⟩:∃ t,t=T.length:=⟨_,rfl⟩
   rw [← hm] at x0 hci hsi' hfl
   rw [← ht] at hO hfl ⊢
   have uD:=abC ht.symm
   have HO:=abC hO
   have HSI:=abC hsi'
   have HB:=abC hB
   clear hO hsi hsi' hB hc hT hlj hm ht
   go_wp2_with ((with_reducible refine aS 16 ?_);refine aX rfl (.tmp 11) (.tmp 15) rfl w.heap.size (.slice va t vc) T rfl HO.out si m ci l rfl HSI.out (by rw [uD.out];omega) HB.out.size ?_;intro v6 w6 xM yH hn6 hb6;have Gr:=abC xM;have Cn:=abC yH;clear xM yH hn6 hb6)
   go_roundw
   case rel=>exact ⟨j+1,by omega,by go_num,by rw [HFS.out];exact Gr.out,aZ HO.out Cn.out HB.out HB.out.size⟩
   case measure=>simp [intOf];omega
  ·have ej:L.take j=L:=List.take_of_length_le (by rw [HL.out];omega)
   rw [ej] at hO
   have HO:=abC hO
   have HB:=abC hB
   clear hO hB ej
   go_wp2_with fail
   (try simp only [Exit.inBlock,Exit.then])
   go_ret
   exact ⟨_,rfl,HO.out,HB.out⟩
end Go.Proofs.YthdgbgleklkaiaaGreatDoor
namespace Go.Proofs.YthdgbgleklkaiaaGreatDoor
open Go.RowKit
theorem info_tB:(Tryz.prog.info? 22).map (fun i=>(i.zero,i.size,i.bytes))=some (some (.slice none 0 0),1,24):=by kernel_rfl
theorem nP {T:Nat→Prop} {w w':World} {B:Nat} {e:TypeId} {size:Nat} {v:Value} {k:Nat} {xs:List Value} (h:w.ownsRow B e size v k xs) (hk:Kept T w w') (hT:∀ g,v.ownBlock=some g→¬ T g):w'.ownsRow B e size v k xs:=by
 obtain ⟨h1,h2⟩:=h
 refine ⟨h1,?_⟩
 rcases h2 with h0|⟨g,cap,cur,rfl,hB,hg,hr⟩
 ·exact .inl h0
 ·exact .inr ⟨g,cap,cur,rfl,hB,hk.blk hg (hT g rfl),hr⟩
theorem Lj {w w':World} {r:Option Nat} (h:w.grownBy w' r):Kept (fun g=>r=some g) w w' :=
 ⟨h.os,h.tape,h.output,h.size,fun k hk ht=>h.block k hk (fun e=>ht e.symm)⟩
def dV (w:World) (B:Nat) (v:Value) (L:List (List Int)):Prop :=
 ∃ vs:List Value,w.ownsRow B 22 1 v L.length vs∧vs.length=L.length∧∀ i,i < L.length→kg w B (vs.getD i undef) (L.getD i [])
theorem dV.nil (w:World) (B:Nat):dV w B (.slice none 0 0) []:=⟨[],⟨by simp, .inl ⟨rfl,rfl⟩⟩,rfl,fun i h=>absurd h (by simp)⟩
theorem dV.below {w w':World} {B:Nat} {v:Value} {L:List (List Int)} (h:dV w B v L) (k:Below w.heap.size w w'):dV w' B v L:=by
 obtain ⟨vs,h1,h2,h3⟩:=h
 exact ⟨vs,nP (T:=fun _=>False) h1 (Kept.of_below k) (fun _ _=>id),h2,fun i hi=>(h3 i hi).kept (T:=fun _=>False) (Kept.of_below k) (fun _ _ _=>id)⟩
theorem dV.alloc {w:World} {B:Nat} {v:Value} {L:List (List Int)} (h:dV w B v L) (o:Obj):dV (w.alloc o) B v L:=h.below ((Below.refl _ w).alloc (abE _) o)
theorem dV.drew {w:World} {B:Nat} {v:Value} {L:List (List Int)} (h:dV w B v L):dV w.drew B v L:=h
theorem dV.drewN {w:World} {B:Nat} {v:Value} {L:List (List Int)} (h:dV w B v L) (n:Nat):dV (w.drewN n) B v L:=h
theorem dV.lt {w:World} {B:Nat} {v:Value} {L:List (List Int)} (h:dV w B v L):∀ k,v.ownBlock=some k→B≤k∧k < w.heap.size:=by
 obtain ⟨vs,h1,h2,h3⟩:=h
 exact World.ownsRow.lt h1
theorem dV.form {w:World} {B:Nat} {v:Value} {L:List (List Int)} (h:dV w B v L) :
  ∃ sa c,v = .slice sa L.length c∧L.length≤c∧om w sa L.length L∧(∀ a,sa=some a→a.spot=none):=by
 obtain ⟨vs,⟨h1,h2⟩,h3,h4⟩:=h
 rcases h2 with ⟨rfl,h0⟩|⟨g,cap,cur,rfl,hB,hg,hn,hm,hs,ht⟩
 ·have:L=[]:=abH h0
  subst this
  exact ⟨none,0,rfl,by simp,⟨rfl,fun i hi=>absurd hi (by simp)⟩,fun a e=>by cases e⟩
 ·refine ⟨_,cap,rfl,hn,⟨rfl,fun i hi=>?_⟩,fun a e=>by cases e;rfl⟩
  obtain ⟨g',c',sp',e,hB',hg',hc',hm'⟩:=h4 i hi
  refine ⟨_,some ⟨g',0,none⟩,c',rfl,?_,by omega,Px hg'⟩
  have e1:(⟨g,0,none⟩:Addr).add i=⟨g,i,none⟩:=by unfold Addr.add;split <;> simp_all
  have hl:=congrArg (fun l=>l[i]?) ht
  simp only [Nat.mul_one,abJ,hi,if_true] at hl
  rw [e1,aF hg]
  have hv:vs[i]? = some (vs.getD i undef):=by simp [abG,show i < vs.length by omega]
  rw [hv,e] at hl
  simpa using hl
theorem DL {α:Type} (xs:List α) (x d:α) (i:Nat):(xs ++ [x]).getD i d=if i < xs.length then xs.getD i d else if i=xs.length then x else d:=by
 simp only [abG]
 by_cases h:i < xs.length
 ·rw [List.getElem?_append_left h,if_pos h]
 ·rw [if_neg h,List.getElem?_append_right (by omega)]
  by_cases e:i=xs.length
  ·rw [if_pos e,e];simp
  ·rw [if_neg e,abK (by simp;omega)]
   rfl
theorem dV.snoc {w w':World} {B:Nat} {v v' x:Value} {L:List (List Int)} {l:List Int} (h:dV w B v L) (hx:kg w B x l)
  (hr:∀ vs,w.ownsRow B 22 1 v L.length vs→w'.ownsRow B 22 1 v' (L.length+1) (vs ++ [x])) (hg:w.grownBy w' v.ownBlock):dV w' B v' (L ++ [l]):=by
 obtain ⟨vs,h1,h2,h3⟩:=h
 have hk:=Lj hg
 have far:∀ {y ys},kg w B y ys→kg w' B y ys:=by
  intro y ys hy
  obtain ⟨g,cap,sp,e,hB,hb,hc,hm⟩:=hy
  refine ⟨g,cap,sp,e,hB,hk.blk hb ?_,hc,hm⟩
  intro e2
  rcases h1.2 with ⟨rfl,_⟩|⟨g2,cap2,cur2,rfl,_,hb2,_⟩
  ·cases e2
  ·have:g2=g:=by simpa [Value.ownBlock] using e2
   subst this
   rw [hb] at hb2
   simp at hb2
 refine ⟨vs ++ [x],by rw [List.length_append];exact hr vs h1,by simp [h2],fun i hi=>?_⟩
 rw [DL,DL,h2]
 by_cases hlt:i < L.length
 ·rw [if_pos hlt,if_pos hlt]
  exact far (h3 i hlt)
 ·rw [if_neg hlt,if_neg hlt,if_pos (by simp at hi;omega),if_pos (by simp at hi;omega)]
  exact far hx
theorem Wl {w:World} {B:Nat} {v x:Value} {L:List (List Int)} {l:List Int} {ty:TypeId} (hown:dV w B v L) (hx:kg w B x l) (hlen:L.length < 1099511627776) (hbase:B≤w.heap.size) :
  ∃ v' w',(Builtin.append_ #[44, 44] ty #[v, .slice (some ⟨w.heap.size,0,none⟩) 1 1]).run Tryz.prog (w.alloc (.cells #[x] 22)) = .ok v' w'∧dV w' B v' (L ++ [l])∧(w.alloc (.cells #[x] 22)).grownBy w' v.ownBlock:=by
 obtain ⟨i0,hi,hz0,hz1,hz2⟩:=info_parts info_tB
 obtain ⟨vs,h1,h2,h3⟩:=hown
 have hb1:Below w.heap.size w (w.alloc (.cells #[x] 22)):=(Below.refl _ w).alloc (abE _) _
 have hone:x.oneCell'=true:=by obtain ⟨g,c,sp,rfl,_⟩:=hx;rfl
 have h1':=nP (T:=fun _=>False) h1 (Kept.of_below hb1) (fun _ _=>id)
 obtain ⟨v',w',e1,e2,e3,e4,e5⟩:=run_append_own_at (P := Tryz.prog) (w.alloc (.cells #[x] 22)) B 44 ty 22 i0 (.slice none 0 0) 1 24 Tryz.underlying44 hi hz0 hz1 hz2 rfl (by decide) v L.length vs h1' ⟨w.heap.size,0,none⟩ 1 1 [x]
  rfl (by
   intro j u hj
   obtain rfl:j=0:=by
    rcases Nat.eq_zero_or_pos j with h0|h0
    ·exact h0
    ·rw [abK (by simp;omega)] at hj;cases hj
   cases hj
   rw [show (⟨w.heap.size,0,none⟩:Addr).add 0=⟨w.heap.size,0,none⟩ from rfl,aF (aH w _)]
   rfl) (by simp [hone]) (by unfold maxLen;omega) (by omega) (by simp;omega)
 refine ⟨v',w',e1,?_,e3⟩
 exact dV.snoc (L:=L) ⟨vs,h1',h2,fun i hi=>(h3 i hi).kept (T:=fun _=>False) (Kept.of_below hb1) (fun _ _ _=>id)⟩ (hx.kept (T:=fun _=>False) (Kept.of_below hb1) (fun _ _ _=>id))
  (fun vs' hv'=>by
   have:vs'=vs:=by
    rcases hv'.2 with ⟨q,hq⟩|⟨g,cap,cur,q,_,hg,_,_,_,ht⟩
    ·have z1:=hv'.1;have z2:=h1'.1
     rw [hq] at z1 z2
     exact (abH (by simpa using z1)).trans (abH (by simpa using z2)).symm
    ·rcases h1'.2 with ⟨q',_⟩|⟨g2,cap2,cur2,q2,_,hg2,_,_,_,ht2⟩
     ·rw [q'] at q;cases q
     ·rw [q] at q2
      cases q2
      rw [hg] at hg2
      cases hg2
      rw [← ht,← ht2]
   rw [this]
   exact e2) e3
theorem lM {w:World} {ops:Array Oper} {rest:List Oper} {o:Oper} {a:Act} {Q:Exit→Act→World→Prop} (hgd:o.guard=none) (s y:Operand)
  (ho:o.op = .call { callee := .builtin .append,args := #[s,y],argTypes := #[44, 44] })
  (B:Nat) (v x:Value) (L:List (List Int)) (l:List Int) (hs:a.eval s=v) (hy:a.eval y = .slice (some ⟨w.heap.size,0,none⟩) 1 1) (hown:dV w B v L) (hx:kg w B x l) (hlen:L.length < 1099511627776) (hbase:B≤w.heap.size)
  (h:∀ v' w',dV w' B v' (L ++ [l])→(w.alloc (.cells #[x] 22)).grownBy w' v.ownBlock→wpList Tryz.prog ops Q rest (a.put o.dst v') w'):wpList Tryz.prog ops Q (o :: rest) a (w.alloc (.cells #[x] 22)):=by
 refine wpList_plain hgd fun _ hK=>?_
 obtain ⟨v',w',hr,h2,h3⟩:=Wl (ty:=o.type) hown hx hlen hbase
 unfold Oper.wp execOp
 simp only [ho,resolve,invoke,builtin,Sem.run_bind,Sem.run_pure,Result.andThen_ok,List.map_toArray,List.map_cons,List.map_nil,hs,hy,hr]
 exact hK _ _ (h v' w' h2 h3)
end Go.Proofs.YthdgbgleklkaiaaGreatDoor
namespace Go.Proofs.YthdgbgleklkaiaaGreatDoor
open Go.RowKit
def chunk (xs:List Int) (k:Nat):List Int:=(xs.drop (64 * k)).take 64 ++ zeros (64 - (xs.length - 64 * k))
def gU (n:Nat):Nat:=if n=0 then 1 else (n+63) / 64
def Nq (xs:List Int):List (List Int):=(List.range (gU xs.length)).map (chunk xs)
def CR (xs:List Int) (k:Nat):List (List Int):=(List.range k).map (chunk xs)
theorem vE (xs:List Int) (k:Nat):CR xs (k+1)=CR xs k ++ [chunk xs k]:=by simp [CR,List.range_succ]
theorem uj (xs:List Int) (k:Nat):(CR xs k).length=k:=by simp [CR]
theorem nu (xs:List Int) (k:Nat):(chunk xs k).length=64:=by simp [chunk,zeros];omega
theorem add_add (a:Addr) (i j:Nat):(a.add i).add j=a.add (i+j):=by
 obtain ⟨b,o,s⟩:=a
 unfold Addr.add
 by_cases hi:i=0
 ·subst hi;simp
 ·by_cases hj:j=0
  ·subst hj;simp
  ·simp [hi,hj,Nat.add_assoc]
theorem Gc (xs:List Int) (k:Nat) :
  (splice ((zeros 64).map (Value.int .u8) ++ []) 0 (((xs.drop (64 * k)).take 64).map (Value.int .u8))).toArray=jV (chunk xs k) []:=by
 unfold splice jV chunk zeros
 simp only [List.append_nil,List.take_zero,List.nil_append,Nat.zero_add,List.length_map,List.map_append,List.map_replicate,List.drop_replicate,List.length_take,List.length_drop]
 congr 2
 congr 1
 omega
theorem Ug {w:World} {ad:Addr} {n:Nat} {xs:List Int} (h:Src w (some ad) n xs) (k:Nat) :
  ∀ j v,(((xs.drop (64 * k)).take 64).map (Value.int .u8))[j]? = some v→w.cell? ((ad.add (64 * k)).add j)=some v:=by
 intro j v hj
 rw [add_add]
 refine jq h ad rfl (64 * k+j) v ?_
 simp only [List.getElem?_map,abJ,List.getElem?_drop] at hj ⊢
 split at hj
 ·exact hj
 ·cases hj
theorem Wv (sa:Option Addr) (n c:Nat) (xs:List Int) (w:World) (hs:Src w sa n xs) (hc:n≤c) (hn:n≤2048) :
  Calls Tryz.prog 35 #[.slice sa n c] w fun e w'=>∃ v,e = .returned (.tuple #[v, .int .i64 0])∧dV w' w.heap.size v (Nq xs)∧Below w.heap.size w w':=by
 have hxl:=hs.len
 have hmk:∀ w:World,(Instr.makeSlice 22 (.int .i64 64) (.int .i64 64)).run Tryz.prog w = .ok (.slice (some ⟨w.heap.size,0,none⟩) 64 64) (w.alloc (.cells (jV (zeros 64) []) 5)):=mk8 64 (by omega)
 have HS:=abC hs
 have jc:=abC hxl
 clear hs hxl
 go_enter Tryz.func35, Tryz.ntmps35
 go_wp2_with fail
 go_loopw [4,5] (fun v i wr=>∃ k:Nat,k≤gU n∧i = .int .i64 (64 * (k:Int))∧dV wr w.heap.size v (CR xs k)∧Below w.heap.size w wr) (fun _ i _=>4096 - (intOf i).toNat)
 case atStart=>exact ⟨0,Nat.zero_le _,rfl,dV.nil _ _,Below.refl _ _⟩
 case round =>
  obtain ⟨k,hk,rfl,hO,hB⟩:=hrel
  obtain ⟨va,vc,hv, -⟩:=hO.form
  rw [uj] at hv
  subst hv
  have hOk:=hO
  by_cases hlt:64 * k < n
  ·obtain ⟨ad,rfl⟩:∃ ad,sa=some ad:=by
    obtain ⟨a,e,_⟩:=HS.out.cell 0 (by omega)
    exact ⟨a,e⟩
   have hkn:k < gU n:=by unfold gU;rw [if_neg (by omega)];omega
   have hs1:=(HS.out.below hB).below ((Below.refl _ wr).alloc (abE _) (.cells (jV (zeros 64) []) 5))
   obtain ⟨cs,hcs⟩:∃ cs,cs=((xs.drop (64 * k)).take 64).map (Value.int .u8):=⟨_,rfl⟩
   have hcl:cs.length=Nat.min (n - 64 * k) 64:=by
    show _=min (n - 64 * k) 64
    rw [hcs,← jc.out];simp;omega
   have hpos:0 < cs.length→some (⟨wr.heap.size,0,none⟩:Addr)=some ⟨wr.heap.size,0,none⟩∧∃ ad',some (ad.add (64 * k))=some ad'∧∀ j v,cs[j]? = some v→(wr.alloc (.cells (jV (zeros 64) []) 5)).cell? (ad'.add j)=some v :=
    fun _=>⟨rfl,_,rfl,fun j v hj=>Ug hs1 k j v (by rw [← hcs];exact hj)⟩
   have hb0:(wr.alloc (.cells (jV (zeros 64) []) 5)).heap[wr.heap.size]? = some (.cells ((zeros 64).map (Value.int .u8) ++ []).toArray 5 (0,0)):=aH _ _
   have hbel:=(Below.refl wr.heap.size wr).alloc (abE _) (.cells (jV (zeros 64) []) 5)
   have hfit:0+cs.length≤((zeros 64).map (Value.int .u8) ++ []).length:=by rw [hcl];show 0+min (n - 64 * k) 64≤_;simp [zeros];omega
   have hone:∀ v∈cs,v.oneCell'=true:=by rw [hcs];exact mQ _ _
   have hch:=Gc xs k
   rw [← hcs] at hch
   have mF:=abC hcl
   have HPOS:=abC hpos
   have HB0:=abC hb0
   have mG:=abC hbel
   have HFIT:=abC hfit
   have HONE:=abC hone
   have HCH:=abC hch
   have vX:=abC hOk
   have oK:=abC hB
   clear hs1 hcs hcl hpos hb0 hbel hfit hone hch hOk hO hB
   go_wp2_with (first|((with_reducible refine aS 25 ?_);refine wpList_copy_splice rfl _ _ 22 22 rfl 5 Tryz.underlying22 nL _ _ _ _ _ _ rfl rfl wr.heap.size 0 _ 5 HB0.out cs mF.out HPOS.out HFIT.out HONE.out wr.heap.size wr mG.out (abE _) ?_;intro w5 hb5 hbl5;have gy:=hb5;have HBL5:=abC hbl5;clear hb5 hbl5)|((with_reducible refine aS 29 ?_);refine lM rfl (.tmp 26) (.tmp 28) rfl w.heap.size _ _ (CR xs k) (chunk xs k) rfl rfl (vX.out.below HBL5.out) ⟨wr.heap.size,64,[],by rw [nu],oK.out.size,by rw [← HCH.out];exact gy.out,by rw [nu];rfl,by unfold maxLen;omega⟩ (by rw [uj];omega) (abD oK.out.size HBL5.out.size) ?_;intro v6 w6 xM yH;have Gr:=abC xM;have Cn:=abC yH;clear xM yH))
   go_roundw
   case rel=>exact ⟨k+1,by omega,by go_num,by rw [vE];exact Gr.out,((oK.out.trans (HBL5.out.mono oK.out.size)).alloc (abD oK.out.size HBL5.out.size) _).grown Cn.out (abD oK.out.size (abD HBL5.out.size (by simp))) (fun j e=>(dV.lt vX.out j e).1)⟩
   case measure=>simp [intOf];omega
  ·by_cases h0:k=0
   ·subst h0
    have hn0:n≤0:=by omega
    have vX:=abC hOk
    have oK:=abC hB
    have hb0:(wr.alloc (.cells (jV (zeros 64) []) 5)).heap[wr.heap.size]? = some (.cells (jV (zeros 64) []) 5 (0,0)):=aH _ _
    have hch:chunk xs 0=zeros 64:=by
     have:xs=[]:=abH (by rw [jc.out];omega)
     subst this
     rfl
    have HB0:=abC hb0
    have HCH:=abC hch
    have mG:=abC ((Below.refl wr.heap.size wr).alloc (abE _) (.cells (jV (zeros 64) []) 5))
    clear hOk hO hB hb0 hch
    rcases sa with _|ad
    ·go_wp2_with (first|((with_reducible refine aS 25 ?_);refine wpList_copy_nothing rfl _ _ 22 22 rfl 5 Tryz.underlying22 nL _ _ _ _ _ _ rfl rfl (by show min _ _=0;omega) ?_)|((with_reducible refine aS 29 ?_);refine lM rfl (.tmp 26) (.tmp 28) rfl w.heap.size _ _ (CR xs 0) (zeros 64) rfl (by rw [World.size_alloc];rfl) (vX.out.below mG.out) ⟨wr.heap.size,64,[],rfl,oK.out.size,HB0.out,by simp [zeros],by unfold maxLen;omega⟩ (by rw [uj];omega) (abD oK.out.size mG.out.size) ?_;intro v6 w6 xM yH;have Gr:=abC xM;have Cn:=abC yH;clear xM yH))
     go_roundw
     case rel=>exact ⟨0+1,by unfold gU;split <;> omega,by go_num,by rw [vE,HCH.out];exact Gr.out,((oK.out.trans (mG.out.mono oK.out.size)).alloc (abD oK.out.size mG.out.size) _).grown Cn.out (abD oK.out.size (abD mG.out.size (by simp))) (fun j e=>(dV.lt vX.out j e).1)⟩
     case measure=>simp [intOf]
    ·go_wp2_with (first|((with_reducible refine aS 25 ?_);refine wpList_copy_nothing rfl _ _ 22 22 rfl 5 Tryz.underlying22 nL _ _ _ _ _ _ rfl rfl (by show min _ _=0;omega) ?_)|((with_reducible refine aS 29 ?_);refine lM rfl (.tmp 26) (.tmp 28) rfl w.heap.size _ _ (CR xs 0) (zeros 64) rfl (by rw [World.size_alloc];rfl) (vX.out.below mG.out) ⟨wr.heap.size,64,[],rfl,oK.out.size,HB0.out,by simp [zeros],by unfold maxLen;omega⟩ (by rw [uj];omega) (abD oK.out.size mG.out.size) ?_;intro v6 w6 xM yH;have Gr:=abC xM;have Cn:=abC yH;clear xM yH))
     go_roundw
     case rel=>exact ⟨0+1,by unfold gU;split <;> omega,by go_num,by rw [vE,HCH.out];exact Gr.out,((oK.out.trans (mG.out.mono oK.out.size)).alloc (abD oK.out.size mG.out.size) _).grown Cn.out (abD oK.out.size (abD mG.out.size (by simp))) (fun j e=>(dV.lt vX.out j e).1)⟩
     case measure=>simp [intOf]
   ·have hk2:k=gU n:=by
     unfold gU at hk ⊢
     split at hk
     ·rename_i hz;rw [if_pos hz];omega
     ·rename_i hz;rw [if_neg hz];omega
    have hce:CR xs k=Nq xs:=by rw [hk2,← jc.out];rfl
    rw [hce] at hOk
    have t2:((64 * (k:Int)) == 0)=false:=by simp;omega
    clear hO hk2 hce h0
    go_wp2_with fail
    go_ret2
    exact ⟨_,rfl,hOk,hB⟩
end Go.Proofs.YthdgbgleklkaiaaGreatDoor
