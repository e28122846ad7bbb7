/- What the walks of lists and arrays share. sha.turn: sha.Sum: The document's hash (14): Lists of lists of bytes of the call's own. Condition: as each theorem says. -/
import Derived.OwnWalkIn
import Derived.StillTailTactics
import Derived.Test.YthdgbgleklkaiaaDoorQa05
import Derived.Test.YthdgbgleklkaiaaDoorQa06
import Derived.Test.YthdgbgleklkaiaaDoorQa09
import Derived.Test.YthdgbgleklkaiaaDoorQa15
import Derived.Test.YthdgbgleklkaiaaDoorQa18
set_option linter.unusedSimpArgs false
set_option linter.unusedVariables false
set_option maxRecDepth 100000
set_option maxHeartbeats 16000000
namespace Go.Proofs.YthdgbgleklkaiaaDoor.Sl
open Go.RowKit Lm Fp Cu Sc
theorem sJ (w:World):(zeroValue 26).run Tryd.prog w = .ok (.agg (arr .u8 (List.replicate 64 0))) w:=by kernel_rfl
theorem Gs:(Tryd.prog.info? 26).map (·.size)=some 64:=by kernel_rfl
theorem kS {xs:List Int} (h:xs.length=64):(Tryd.prog.info? 26).map (·.size)=some (arr .u8 xs).size:=by rw [aF,h];exact Gs
theorem sig_i {xs:List Int} (h:xs.length=64):(Tryd.prog.info? 26).map (·.size)=some xs.length:=by rw [h];exact Gs
theorem DJ {w:World} {g:Nat} {xs:List Int} {t:TypeId} {fr:Nat×Nat} (h:w.heap[g]? = some (.cells (arr .u8 xs) t fr)) (o m:Nat) (hm:o+m≤xs.length):Src w (some ⟨g,o,none⟩) m ((xs.drop o).take m):=by
 refine ⟨by rw [List.length_take,List.length_drop];omega,fun i hi=>⟨_,rfl,?_⟩⟩
 rw [Addr.add_lit,cZ h (o+i) (by omega)]
 have e:((xs.drop o).take m).getD i 0=xs.getD (o+i) 0:=by simp [List.getD,List.getElem?_take,hi,List.getElem?_drop]
 rw [e]
theorem bO {w:World} {g:Nat} {xs:List Int} {t:TypeId} {fr:Nat×Nat} (h:w.heap[g]? = some (.cells (arr .u8 xs) t fr)) (m:Nat) (hm:xs.length=m):Src w (some ⟨g,0,none⟩) m xs:=by
 have:=DJ h 0 m (by omega)
 rwa [List.drop_zero,List.take_of_length_le (by omega)] at this
theorem R8 {w w':World} {o:Obj} (h:Below (w.alloc o).heap.size (w.alloc o) w'):Below w.heap.size w w':=by
 have b1:Below w.heap.size w (w.alloc o):=(Below.refl _ w).alloc (Nat.le_refl _) o
 exact b1.trans (h.mono b1.size)
theorem bM.add {w wr w':World} {l:List (Nat×Array Value×TypeId)} (h:bM w wr l) (b:Below wr.heap.size wr w') {g:Nat} {c:Array Value} {t:TypeId} (hg:w'.heap[g]? = some (.cells c t (0,0))) (hle:wr.heap.size≤g):bM w w' (l ++ [(g,c,t)]):=by
 have h1:=h.kept b
 have hlt:∀ (i g':Nat) (c':Array Value) (t':TypeId),l[i]? = some (g',c',t')→g' < wr.heap.size:=fun i g' c' t' hi=>h.lt i hi
 refine ⟨fun i g' c' t' hi=>?_,fun i j g' c1 t1 c2 t2 hi hj=>?_,h1.below⟩
 ·rcases Nat.lt_or_ge i l.length with hl|hl
  ·rw [List.getElem?_append_left hl] at hi
   exact h1.mem i g' c' t' hi
  ·rw [List.getElem?_append_right hl] at hi
   obtain ⟨hh0,e⟩:=List.getElem?_eq_some_iff.1 hi
   have e2:(g,c,t)=(g',c',t'):=by rw [← e];simp
   cases e2
   exact ⟨hg,Nat.le_trans h.below.size hle⟩
 ·have key:∀ (i g':Nat) (c':Array Value) (t':TypeId),(l ++ [(g,c,t)])[i]? = some (g',c',t')→(i < l.length∧l[i]? = some (g',c',t'))∨(i=l.length∧g'=g):=by
   intro i g' c' t' hi
   rcases Nat.lt_or_ge i l.length with hl|hl
   ·rw [List.getElem?_append_left hl] at hi
    exact .inl ⟨hl,hi⟩
   ·rw [List.getElem?_append_right hl] at hi
    obtain ⟨hh,e⟩:=List.getElem?_eq_some_iff.1 hi
    have e2:(g,c,t)=(g',c',t'):=by rw [← e];simp
    cases e2
    simp at hh
    exact .inr ⟨by omega,rfl⟩
  rcases key i g' c1 t1 hi with ⟨a1,a2⟩|⟨a1,a2⟩ <;> rcases key j g' c2 t2 hj with ⟨b1,b2⟩|⟨b1,b2⟩
  ·exact h.inj i j _ _ _ _ _ a2 b2
  ·have:=hlt i g' c1 t1 a2;omega
  ·have:=hlt j g' c2 t2 b2;omega
  ·omega
theorem src_two {w:World} {g:Nat} {t:TypeId} {fr:Nat×Nat} {s1 s2:Option Addr} {n1 n2 c1 c2:Nat} {x1 x2:List Int} (h:w.heap[g]? = some (.cells #[.slice s1 n1 c1, .slice s2 n2 c2] t fr)) (h1:Src w s1 n1 x1) (h2:Src w s2 n2 x2) (l1:n1≤c1) (l2:n2≤c2) :
  qD w (some ⟨g,0,none⟩) 2 [x1,x2]:=by
 have e1:=h1.len
 have e2:=h2.len
 subst e1 e2
 refine ⟨rfl,fun i hi=>?_⟩
 match i,hi with
 | 0,_=>exact ⟨_,s1,c1,rfl,by rw [show (⟨g,0,none⟩:Addr).add 0=⟨g,0,none⟩ from rfl,aG h];rfl,l1,h1⟩
 | 1,_=>exact ⟨_,s2,c2,rfl,by rw [show (⟨g,0,none⟩:Addr).add 1=⟨g,1,none⟩ from rfl,aG h];rfl,l2,h2⟩
end Go.Proofs.YthdgbgleklkaiaaDoor.Sl
namespace Go.Proofs.YthdgbgleklkaiaaDoor.Ha
open Go.RowKit
theorem Ga (w:World):(zeroValue 62).run Tryd.prog w = .ok (.agg (arr .u32 (List.replicate 8 0))) w:=by kernel_rfl
theorem zo {a0 a1 a2 a3 a4 a5 a6 a7 b0 b1 b2 b3 b4 b5 b6 b7:Int} (h0:a0=b0) (h1:a1=b1) (h2:a2=b2) (h3:a3=b3) (h4:a4=b4) (h5:a5=b5) (h6:a6=b6) (h7:a7=b7) :
  [a0,a1,a2,a3,a4,a5,a6,a7]=[b0,b1,b2,b3,b4,b5,b6,b7]:=by
 subst h0 h1 h2 h3 h4 h5 h6 h7
 rfl
theorem Za (a b:Int):(a+b) % 4294967296=add a b:=by simp only [add,IntKind.wrap_u32]
theorem flat6 (a b c d e f:Int):(a+(b+c+d+e+f)) % 4294967296=add a (add (add (add (add b c) d) e) f):=by
 simp only [add,IntKind.wrap_u32]
 omega
theorem flat7 (a b c d e x y:Int):(a+b+c+d+e+(x+y)) % 4294967296=add (add (add (add (add a b) c) d) e) (add x y):=by
 simp only [add,IntKind.wrap_u32]
 omega
theorem lN {P:Program} {ops:Array Oper} {rest:List Oper} {o:Oper} {a:Act} {w:World} {Q:Exit→Act→World→Prop} (hgd:o.guard=none) (ty:TypeId) (x y:Operand) (ho:o.op = .store ty x y)
  (g:Nat) (k:IntKind) (ys:List Int) (t:TypeId) (hb:w.heap[g]? = some (.cells (arr k ys) t (0,0))) (hx:a.eval x = .pointer (some ⟨g,0,none⟩)) (a0 a1 a2 a3 a4 a5 a6 a7:Int)
  (hy:a.eval y = .agg #[Value.int k a0, .int k a1, .int k a2, .int k a3, .int k a4, .int k a5, .int k a6, .int k a7]) (hl:ys.length=8) (hi:(P.info? ty).map (·.size)=some 8)
  (h:∀ w',w'.heap[g]? = some (.cells (arr k [a0,a1,a2,a3,a4,a5,a6,a7]) t (0,0))→Kept (fun i=>i=g) w w'→w'.heap.size=w.heap.size→wpList P ops Q rest (a.put o.dst undef) w') :
  wpList P ops Q (o :: rest) a w:=by
 refine ah hgd ty x y ho g (arr k ys) (arr k [a0,a1,a2,a3,a4,a5,a6,a7]) t hb hx hy ?_ ?_ (av _ _) h
 ·rw [aF,aF,hl];rfl
 ·rw [aF];exact hi
end Go.Proofs.YthdgbgleklkaiaaDoor.Ha
namespace Go.Proofs.YthdgbgleklkaiaaDoor.Ha
open Go.RowKit
theorem sK (w:World):(zeroValue 23).run Tryd.prog w = .ok (.agg (arr .u8 (List.replicate 32 0))) w:=by kernel_rfl
theorem sV:(Tryd.prog.info? 23).map (·.size)=some 32:=by kernel_rfl
structure ES (w wr:World) (p:Nat) (s:S) (T:Int):Prop where
 st:pV wr p s.h s.b s.n T
 ok:s.Ok
 res:wr.heap[w.heap.size]? = some (.cells (arr .u8 (List.replicate 32 0)) 23 (0,0))
 below:Below w.heap.size w wr
 ne:w.heap.size < p
theorem ES.take {w wr w':World} {p:Nat} {s:S} {T x:Int} (h:ES w wr p s T) (hx:0≤x∧x≤255) (st:pV w' p (s.take x).h (s.take x).b (s.take x).n T) (k:Kept (fun i=>i=p) wr w'):ES w w' p (s.take x) T :=
 ⟨st,h.ok.take x hx,k.blk h.res (by have:=h.ne;omega),h.below.trans (k.toBelow h.below.size (by rintro i rfl;have:=h.ne;omega)),h.ne⟩
theorem ES.alloc {w wr:World} {p:Nat} {s:S} {T:Int} (h:ES w wr p s T) (o:Obj):ES w (wr.alloc o) p s T:=⟨h.st.alloc o,h.ok,bf h.res o,h.below.alloc h.below.size o,h.ne⟩
theorem ES.far {w wr:World} {p g:Nat} {s:S} {T:Int} (h:ES w wr p s T) (i:Nat) (v:Value) (hg:g≠p) (hw:w.heap.size < g):ES w (wr.setCell ⟨g,i,none⟩ v) p s T :=
 ⟨h.st.kept ((Kept.refl (fun x=>x=g) wr).at i v) (fun e=>hg e.symm),h.ok,aB h.res _ (by omega),h.below.setCell (p:=⟨g,i,none⟩) (by show w.heap.size≤g;omega) _,h.ne⟩
theorem EH (h:List Int) (i:Nat) (hi:i < 32) (v:Int) (hv:v=(digest h).getD i 0):((digest h).take i ++ List.replicate (32 - i) 0).set i v=(digest h).take (i+1) ++ List.replicate (32 - (i+1)) 0:=by
 have hl:(digest h).length=32:=by simp [digest]
 rw [iD _ i 0 (by omega),← hv,List.set_append_right _ _ (by simp;omega),show 32 - i=(32 - (i+1))+1 by omega,List.replicate_succ]
 simp [hl,Nat.min_eq_left (Nat.le_of_lt hi)]
theorem dA (h:List Int) (i:Nat) (hi:i < 32):(digest h).getD i 0=h.getD (i / 4) 0 / 2 ^ (8 * (3 - i % 4)) % 256:=by simp [digest,List.getD,hi]
end Go.Proofs.YthdgbgleklkaiaaDoor.Ha
namespace Go.Proofs.YthdgbgleklkaiaaDoor.Ha
open Go.RowKit
def eB (w:World):Prop:=∀ t,t < 64→w.cell? ⟨0, t,none⟩=some (.int .u32 (K.getD t 0))
structure dN (w wr:World) (lim:Nat) (sm:Option Addr) (lm cm:Nat) (pm hs:List Int):Prop where
 h:wr.heap[w.heap.size+1]? = some (.cells (arr .u32 hs) 62 (0,0))
 own:aV wr (w.heap.size+2) (.slice sm lm cm) pm
 res:wr.heap[w.heap.size]? = some (.cells (arr .u8 (List.replicate 32 0)) 23 (0,0))
 below:Below w.heap.size w wr
 tab:eB wr
 lt3:w.heap.size+1 < lim
 ltO:∀ k,(Value.slice sm lm cm).ownBlock=some k→k < lim
 ltG : 0 < w.heap.size
 sz:lim≤wr.heap.size
 hl:hs.length=8
theorem dN.kept {T:Nat→Prop} {w wr w':World} {lim:Nat} {sm:Option Addr} {lm cm:Nat} {pm hs:List Int} (h:dN w wr lim sm lm cm pm hs) (k:Kept T wr w') (hT:∀ i,T i→lim≤i):dN w w' lim sm lm cm pm hs:=by
 have l3:=h.lt3
 have lg:=h.ltG
 refine ⟨k.blk h.h (fun e=>by have:=hT _ e;omega),h.own.kept k (fun g hg e=>by have:=hT _ e;have:=h.ltO g hg;omega),k.blk h.res (fun e=>by have:=hT _ e;omega),?_,?_,l3,h.ltO,lg,Nat.le_trans h.sz k.size,h.hl⟩
 ·exact h.below.trans (k.toBelow h.below.size (fun i e=>by have:=hT i e;omega))
 ·intro t ht
  exact k.lM (h.tab t ht) (fun e=>by have:lim ≤ 0 := hT _ e;omega)
theorem dN.alloc {w wr:World} {lim:Nat} {sm:Option Addr} {lm cm:Nat} {pm hs:List Int} (h:dN w wr lim sm lm cm pm hs) (o:Obj):dN w (wr.alloc o) lim sm lm cm pm hs:=h.kept (T:=fun _=>False) ((Kept.refl _ _).alloc o) (fun _ e=>e.elim)
theorem dN.drewN {w wr:World} {lim:Nat} {sm:Option Addr} {lm cm:Nat} {pm hs:List Int} (h:dN w wr lim sm lm cm pm hs) (n:Nat):dN w (wr.drewN n) lim sm lm cm pm hs:=h.kept (T:=fun _=>False) ((Kept.refl _ _).drewN n) (fun _ e=>e.elim)
theorem dN.drew {w wr:World} {lim:Nat} {sm:Option Addr} {lm cm:Nat} {pm hs:List Int} (h:dN w wr lim sm lm cm pm hs):dN w wr.drew lim sm lm cm pm hs:=h.kept (T:=fun _=>False) ((Kept.refl _ _).drew) (fun _ e=>e.elim)
theorem dN.far {w wr:World} {lim:Nat} {sm:Option Addr} {lm cm:Nat} {pm hs:List Int} (h:dN w wr lim sm lm cm pm hs) (g i:Nat) (hg:lim≤g) (v:Value):dN w (wr.setCell ⟨g,i,none⟩ v) lim sm lm cm pm hs :=
 h.kept ((Kept.refl (fun x=>x=g) wr).at i v) (by rintro i rfl;exact hg)
theorem dN.seth {w wr:World} {lim:Nat} {sm:Option Addr} {lm cm:Nat} {pm hs:List Int} (h:dN w wr lim sm lm cm pm hs) (i:Nat) (x:Int):dN w (wr.setCell ⟨w.heap.size+1,i,none⟩ (.int .u32 x)) lim sm lm cm pm (hs.set i x):=by
 have k:Kept (fun x=>x=w.heap.size+1) wr (wr.setCell ⟨w.heap.size+1,i,none⟩ (.int .u32 x)):=(Kept.refl _ _).at _ _
 refine ⟨bK h.h i x,h.own.kept k (fun g hg e=>?_),k.blk h.res (by omega),h.below.setCell (p:=⟨w.heap.size+1,i,none⟩) (by simp) _,fun t ht=>?_,h.lt3,h.ltO,h.ltG,by rw [show (wr.setCell ⟨w.heap.size+1,i,none⟩ (.int .u32 x)).heap.size=wr.heap.size by simp [World.setCell]];exact h.sz,by rw [List.length_set];exact h.hl⟩
 ·have:=(h.own.lt g hg).1
  omega
 ·refine k.lM (h.tab t ht) (fun e=>?_)
  have e : 0 = w.heap.size+1:=e
  have:=h.ltG
  omega
theorem eB.lt {w:World} (h:eB w) : 0 < w.heap.size:=World.block_lt_of_cell? _ _ (h 0 (by omega))
theorem Ad (w:World):(Instr.build 62 #[(0, .int .u32 1779033703),(1, .int .u32 3144134277),(2, .int .u32 1013904242),(3, .int .u32 2773480762),(4, .int .u32 1359893119),(5, .int .u32 2600822924),(6, .int .u32 528734635),(7, .int .u32 1541459225)]).run Tryd.prog w = .ok (.agg (arr .u32 H0)) w:=by kernel_rfl
theorem uy (y:Int):IntKind.u8.wrap (bits .and .u32 y 255)=y % 256:=by
 have h2:(BitVec.ofInt 32 (255:Int)).toNat=255:=by decide
 have e:∀ x:Nat,x &&& 255=x % 256:=fun x=>Nat.and_two_pow_sub_one_eq_mod x 8
 show IntKind.u8.wrap (IntKind.u32.wrap ((BitVec.ofInt 32 y &&& BitVec.ofInt 32 (255:Int)).toNat:Int))=_
 rw [BitVec.toNat_and,h2,e,BitVec.toNat_ofInt,IntKind.wrap_u8,IntKind.wrap_u32]
 omega
theorem dN.cell {w wr:World} {lim:Nat} {sm:Option Addr} {lm cm:Nat} {pm hs:List Int} (h:dN w wr lim sm lm cm pm hs) (i:Nat) (hi:i < pm.length):∃ a,sm=some a∧wr.cell? (a.add i)=some (.int .u8 (pm.getD i 0)):=by
 obtain ⟨sa,c,hv, -, -, hs, -⟩:=h.own.form
 cases hv
 exact hs.cell i hi
theorem wI {P:Program} {f:FuncId} {args:Array Value} {w:World} {v:Value} (h:Calls P f args w fun e w'=>e = .returned v∧w=w'):Calls P f args w fun e w''=>e = .returned v∧w''=w:=h.mono fun _ _ h=>⟨h.1,h.2.symm⟩
theorem zL (xs pm:List Int) (n Q:Nat) (hn:xs.length=n) (hp:pm=xs ++ tail n) (hl:pm.length=64 * Q):hash xs=digest (ji pm Q):=by
 subst hn hp
 unfold hash
 rw [Ke _ Q hl]
theorem yY (xs pm:List Int) (n:Nat) (hx:bytes xs) (hp:pm=xs ++ tail n):∀ x∈pm,0≤x∧x≤255:=by
 subst hp
 intro x h
 rcases List.mem_append.1 h with h|h
 ·exact hx x h
 ·exact qR n x h
theorem Y9 (a b c d:Int):(a+b+c+d) % 4294967296=add (add (add d c) b) a:=by
 simp only [add,IntKind.wrap_u32]
 omega
theorem za (k x y:Nat) (hy:y < 2 ^ k) (h:x * 2 ^ k+y < 4294967296):bits .or .u32 ((x * 2 ^ k:Nat):Int) (y:Int)=((x * 2 ^ k+y:Nat):Int):=by
 show IntKind.u32.wrap ((BitVec.ofInt 32 ((x * 2 ^ k:Nat):Int) ||| BitVec.ofInt 32 (y:Int)).toNat:Int)=_
 rw [BitVec.ofInt_natCast,BitVec.ofInt_natCast,BitVec.toNat_or,BitVec.toNat_ofNat,BitVec.toNat_ofNat,Nat.mod_eq_of_lt (by omega),Nat.mod_eq_of_lt (by omega),Nat.mul_comm x,← Nat.two_pow_add_eq_or_of_lt hy,IntKind.wrap_u32,Nat.mul_comm (2 ^ k) x]
 generalize x * 2 ^ k=z at h ⊢
 omega
theorem word4n (a b c d:Nat) (ha:a≤255) (hb:b≤255) (hc:c≤255) :
  bits .or .u32 (bits .or .u32 (bits .or .u32 (IntKind.u32.wrap ((a:Int) * 16777216)) (IntKind.u32.wrap ((b:Int) * 65536))) (IntKind.u32.wrap ((c:Int) * 256))) (d:Int) =
  bits .or .u32 (IntKind.u32.wrap (bits .or .u32 (IntKind.u32.wrap (bits .or .u32 (IntKind.u32.wrap (bits .or .u32 (IntKind.u32.wrap (0 * 256)) (a:Int) * 256)) (b:Int) * 256)) (c:Int) * 256)) (d:Int):=by
 have m1:((a * 2 ^ 24+b * 2 ^ 16:Nat):Int)=(((a * 2 ^ 8+b) * 2 ^ 16:Nat):Int):=congrArg Int.ofNat (by omega)
 have m2:(((a * 2 ^ 8+b) * 2 ^ 16+c * 2 ^ 8:Nat):Int)=((((a * 2 ^ 8+b) * 2 ^ 8+c) * 2 ^ 8:Nat):Int):=congrArg Int.ofNat (by omega)
 have r0:IntKind.u32.wrap (0 * 256)=((0 * 2 ^ 8:Nat):Int):=by rw [IntKind.wrap_u32];omega
 have r1:IntKind.u32.wrap (((0 * 2 ^ 8+a:Nat):Int) * 256)=((a * 2 ^ 8:Nat):Int):=by rw [IntKind.wrap_u32];omega
 have r2:IntKind.u32.wrap (((a * 2 ^ 8+b:Nat):Int) * 256)=(((a * 2 ^ 8+b) * 2 ^ 8:Nat):Int):=by rw [IntKind.wrap_u32];omega
 have r3:IntKind.u32.wrap ((((a * 2 ^ 8+b) * 2 ^ 8+c:Nat):Int) * 256)=((((a * 2 ^ 8+b) * 2 ^ 8+c) * 2 ^ 8:Nat):Int):=by rw [IntKind.wrap_u32];omega
 have l1:IntKind.u32.wrap ((a:Int) * 16777216)=((a * 2 ^ 24:Nat):Int):=by rw [IntKind.wrap_u32];omega
 have l2:IntKind.u32.wrap ((b:Int) * 65536)=((b * 2 ^ 16:Nat):Int):=by rw [IntKind.wrap_u32];omega
 have l3:IntKind.u32.wrap ((c:Int) * 256)=((c * 2 ^ 8:Nat):Int):=by rw [IntKind.wrap_u32];omega
 rw [l1,l2,l3,za 24 a (b * 2 ^ 16) (by omega) (by omega),m1,za 16 (a * 2 ^ 8+b) (c * 2 ^ 8) (by omega) (by omega),m2]
 rw [r0,za 8 0 a (by omega) (by omega),r1,za 8 a b (by omega) (by omega),r2,za 8 (a * 2 ^ 8+b) c (by omega) (by omega),r3]
theorem wr24 (a:Int) (h:0≤a) (h2:a≤255):IntKind.u32.wrap (a * 16777216)=a * 16777216:=by rw [IntKind.wrap_u32];omega
theorem wr16 (a:Int) (h:0≤a) (h2:a≤255):IntKind.u32.wrap (a * 65536)=a * 65536:=by rw [IntKind.wrap_u32];omega
theorem wr8 (a:Int) (h:0≤a) (h2:a≤255):IntKind.u32.wrap (a * 256)=a * 256:=by rw [IntKind.wrap_u32];omega
theorem word4 (b:List Int) (o:Nat) (h:∀ j,0≤b.getD j 0∧b.getD j 0≤255) :
  bits .or .u32 (bits .or .u32 (bits .or .u32 (IntKind.u32.wrap (b.getD o 0 * 16777216)) (IntKind.u32.wrap (b.getD (o+1) 0 * 65536))) (IntKind.u32.wrap (b.getD (o+2) 0 * 256))) (b.getD (o+3) 0)=part b o 4:=by
 obtain ⟨x0,e0⟩:=Int.eq_ofNat_of_zero_le (h o).1
 obtain ⟨x1,e1⟩:=Int.eq_ofNat_of_zero_le (h (o+1)).1
 obtain ⟨x2,e2⟩:=Int.eq_ofNat_of_zero_le (h (o+2)).1
 obtain ⟨x3,e3⟩:=Int.eq_ofNat_of_zero_le (h (o+3)).1
 have l0:=(h o).2
 have l1:=(h (o+1)).2
 have l2:=(h (o+2)).2
 simp only [part,Nat.add_zero]
 rw [e0] at l0 ⊢
 rw [e1] at l1 ⊢
 rw [e2] at l2 ⊢
 rw [e3]
 exact word4n x0 x1 x2 x3 (by omega) (by omega) (by omega)
theorem UD (b:List Int) (j:Nat) (_hj:j < 16):pre b (4 * (j+1))=(pre b (4 * j)).set j (part b (4 * j) 4):=by
 apply List.ext_getElem
 ·simp [pre]
 ·intro i h1 h2
  rw [List.getElem_set]
  simp only [pre,List.getElem_map,List.getElem_range]
  by_cases e:j=i
  ·subst e
   rw [if_pos rfl,show min 4 (4 * (j+1) - 4 * j)=4 by omega]
  ·rw [if_neg e,show min 4 (4 * (j+1) - 4 * i)=min 4 (4 * j - 4 * i) by omega]
theorem kE (sa:Option Addr) (n c:Nat) (xs:List Int) (w:World) (hs:Src w sa n xs) (hx:bytes xs) (hn:n≤70368744177664) (hk:eB w) :
  Calls Tryd.prog 14 #[.slice sa n c] w fun e w'=>e = .returned (.agg (arr .u8 (hash xs)))∧Below w.heap.size w w':=by
 have hg:=hk.lt
 have hxl:=hs.len
 have z1:(Tryd.prog.info? 62).map (·.size)=some (arr .u32 H0).size:=sW
 have z2:(arr .u32 H0).size=(arr .u32 (List.replicate 8 0)).size:=rfl
 have HS:=Lib.hid hs
 have HX:=Lib.hid hx
 have HK:=Lib.hid hk
 have HG:=Lib.hid hg
 have iG:=Lib.hid hxl
 have Z1:=Lib.hid z1
 have Z2:=Lib.hid z2
 have B1:=Lib.hid (aL w (.cells (arr .u8 (List.replicate 32 0)) 23))
 have B2:=Lib.hid (aL (w.alloc (.cells (arr .u8 (List.replicate 32 0)) 23)) (.cells (arr .u32 (List.replicate 8 0)) 62))
 have eA:(w.alloc (.cells (arr .u8 (List.replicate 32 0)) 23)).heap.size=w.heap.size+1:=by simp
 rw [eA] at B2
 have EA:=Lib.hid eA
 clear hs hx hk hg hxl z1 z2 eA
 go_enter Tryd.func14, Tryd.ntmps14
 go_wp2_with (first|((with_reducible refine aS 2 ?_);refine aj rfl 23 rfl _ (sK _) ?_)|((with_reducible refine aS 21 ?_);refine wpList_build rfl 62 _ rfl #[(0, .int .u32 1779033703),(1, .int .u32 3144134277),(2, .int .u32 1013904242),(3, .int .u32 2773480762),(4, .int .u32 1359893119),(5, .int .u32 2600822924),(6, .int .u32 528734635),(7, .int .u32 1541459225)] rfl _ (Ad _) ?_)|((with_reducible refine aS 3 ?_);refine aj rfl 62 rfl _ (Ga _) ?_;rw [EA.out])|((with_reducible show wpList _ _ _ (Oper.mk none _ _ _ _ _ :: _) _ _);refine ah rfl 62 _ _ rfl (w.heap.size+1) _ _ 62 B2.out rfl rfl Z2.out Z1.out (av _ _) ?_;intro w1 hb1 hk1 hz1;have hw1:=(((Below.refl _ w).alloc (Nat.le_refl _) _).alloc (by simp) _).trans (hk1.toBelow (B:=w.heap.size) (by simp;omega) (by rintro i rfl;omega));have HW1:=Lib.hid hw1;have HB1:=Lib.hid hb1;have uH:=Lib.hid hk1;have HZ1:=Lib.hid hz1;clear hb1 hk1 hz1 hw1)|(go_at_call 28; refine (qX sa n c xs w1 (HS.out.below HW1.out) hn).mono ?_;rintro e w2 ⟨v,rfl,hown2,WL⟩;have BM:=Lib.hid hown2;have Aw:=Lib.hid WL;clear hown2 WL))
 have hz1:w1.heap.size=w.heap.size+2:=by rw [HZ1.out];simp
 obtain ⟨pm,hpm⟩:∃ pm,pm=xs ++ tail n:=⟨_,rfl⟩
 obtain ⟨lim,hlim⟩:∃ lim,lim=w2.heap.size:=⟨_,rfl⟩
 obtain ⟨Q,hQ⟩:=yE n
 have hpl:pm.length=64 * Q:=by rw [hpm,List.length_append,iG.out];exact hQ
 have ho2:=BM.out
 rw [← hpm] at ho2
 obtain ⟨sm,cm,hvm, -, -, -, -⟩:=ho2.form
 rw [hpl] at hvm
 subst hvm
 have hb2s:=Aw.out.size
 have hbw2:Below w.heap.size w w2:=HW1.out.trans (Aw.out.mono (by omega))
 have hR0:dN w w2 lim sm (64 * Q) cm pm (ji pm 0):=by
  have hg:=HG.out
  refine ⟨?_,ho2.mono (by omega),Below.blk Aw.out (uH.out.blk (bf B1.out _) (by omega)) (by omega),hbw2,fun t ht=>fJ hbw2 (HK.out t ht),by omega,fun k hk=>by rw [hlim];exact (ho2.lt k hk).2,hg,by omega,Kc _ _⟩
  rw [Et]
  exact Below.blk Aw.out HB1.out (by omega)
 have hnl:(64 * Q)≤70368744178000:=by
  have hq:n+(tail n).length=(64 * Q):=hQ
  have:(tail n).length≤256:=by simp [tail];omega
  omega
 have WK:=yY xs pm n HX.out hpm
 have HEND:=Lib.hid (zL xs pm n Q iG.out hpm hpl)
 have MC:=Lib.hid hpl
 have IE:=Lib.hid hR0
 have HBYT:=Lib.hid WK
 clear hz1 hpm hlim hQ hpl ho2 hb2s hbw2 hR0 WK BM Aw HW1 HB1 uH HZ1 B1 B2 EA
 go_wp2_with fail
 go_loopw [5] (fun i wr=>∃ q:Nat,q≤Q∧i = .int .i64 (64 * (q:Int))∧dN w wr lim sm (64 * Q) cm pm (ji pm q)) (fun i _=>(64 * Q) - (intOf i).toNat)
 case atStart=>exact ⟨0,by omega,rfl,IE.out⟩
 clear IE
 case round =>
 obtain ⟨q,hq,rfl,hR⟩:=hrel
 obtain ⟨wo,rfl⟩:∃ wo:World,wo=wr:=⟨_,rfl⟩
 by_cases hlt:q < Q
 ·obtain ⟨hv0,hh⟩:∃ hv0,hv0=ji pm q:=⟨_,rfl⟩
  obtain ⟨bl,hbl⟩:∃ bl,bl=eF pm q:=⟨_,rfl⟩
  have hsu:ji pm (q+1)=comp hv0 bl:=by rw [hh,hbl];exact Eu pm q (by rw [MC.out];omega)
  have hby:∀ j,0≤bl.getD j 0∧bl.getD j 0≤255:=by
   intro j
   refine byte_at (fun x hx=>HBYT.out x ?_) j
   rw [hbl] at hx
   exact List.mem_of_mem_drop (List.mem_of_mem_take hx)
  have hR1:=hR
  rw [← hh] at hR1
  have wS:=Lib.hid hR.sz
  have HR2:=Lib.hid (hR1.alloc (.cells (arr .u32 (List.replicate 64 0)) 64))
  have hb2:=aL wo (.cells (arr .u32 (List.replicate 64 0)) 64)
  rw [← kX bl] at hb2
  have HB2:=Lib.hid hb2
  have HSU:=Lib.hid hsu
  have HBY:=Lib.hid hby
  have sD:=Lib.hid hbl.symm
  have HHL:=Lib.hid hR1.hl
  clear hR hR1 hb2 hsu hby hbl hh
  go_wp2_with ((with_reducible refine aS 6 ?_);refine aj rfl 64 rfl _ (Te _) ?_)
  rw [kX bl] at HB2
  rw [← kX bl] at HB2
  go_loopw [7] (fun i wr=>∃ i6:Nat,i6≤16∧i = .int .i64 i6∧dN w wr lim sm (64 * Q) cm pm hv0∧wr.heap[wo.heap.size]? = some (.cells (arr .u32 (pre bl (4 * i6))) 64 (0,0))) (fun i _=>16 - (intOf i).toNat)
  case atStart=>exact ⟨0,by omega,rfl,HR2.out,HB2.out⟩
  case round =>
   obtain ⟨i6,hi6,rfl,hR,hb⟩:=hrel
   by_cases hlt6:i6 < 16
   ·obtain ⟨ad,rfl,c0⟩:=hR.cell (64 * q+(4 * i6)) (by rw [MC.out];omega)
    obtain ⟨ad1,ea1,c1⟩:=hR.cell (64 * q+(4 * i6+1)) (by rw [MC.out];omega)
    obtain ⟨ad2,ea2,c2⟩:=hR.cell (64 * q+(4 * i6+2)) (by rw [MC.out];omega)
    obtain ⟨ad3,ea3,c3⟩:=hR.cell (64 * q+(4 * i6+3)) (by rw [MC.out];omega)
    cases ea1
    cases ea2
    cases ea3
    rw [← EL pm q _ (by omega),sD.out] at c0 c1 c2 c3
    have y0:=aU hb i6 (by rw [DZ];omega)
    have yf:=aC hb i6
    have g1:=bK hb i6 (part bl (4 * i6) 4)
    rw [← UD bl i6 hlt6] at g1
    have G1:Hid (∀ v,v=part bl (4 * i6) 4→(wr.setCell ⟨wo.heap.size,i6,none⟩ (.int .u32 v)).heap[wo.heap.size]? = some (.cells (arr .u32 (pre bl (4 * (i6+1)))) 64 (0,0))):=Lib.hid (by rintro v rfl;exact g1)
    rw [← word4 bl (4 * i6) HBY.out] at G1
    obtain ⟨b00,b01⟩:=HBY.out (4 * i6)
    obtain ⟨b10,b11⟩:=HBY.out (4 * i6+1)
    obtain ⟨b20,b21⟩:=HBY.out (4 * i6+2)
    obtain ⟨b30,b31⟩:=HBY.out (4 * i6+3)
    have HR4:=Lib.hid (fun v=>hR.far wo.heap.size i6 wS.out v)
    clear hR hb g1
    generalize (pre bl (4 * i6)).getD i6 0=y at y0
    generalize bl.getD (4 * i6) 0=p0 at c0 b00 b01 G1
    generalize bl.getD (4 * i6+1) 0=p1 at c1 b10 b11 G1
    generalize bl.getD (4 * i6+2) 0=p2 at c2 b20 b21 G1
    generalize bl.getD (4 * i6+3) 0=p3 at c3 b30 b31 G1
    have j1:IntKind.i64.wrap (4 * (i6:Int))=4 * (i6:Int):=IntWalk.i64_in _ (by omega)
    have j2:IntKind.i64.wrap (64 * (q:Int)+4 * (i6:Int))=64 * (q:Int)+4 * (i6:Int):=IntWalk.i64_in _ (by omega)
    have j3:IntKind.i64.wrap (64 * (q:Int)+4 * (i6:Int)+1)=64 * (q:Int)+4 * (i6:Int)+1:=IntWalk.i64_in _ (by omega)
    have j4:IntKind.i64.wrap (64 * (q:Int)+4 * (i6:Int)+2)=64 * (q:Int)+4 * (i6:Int)+2:=IntWalk.i64_in _ (by omega)
    have j5:IntKind.i64.wrap (64 * (q:Int)+4 * (i6:Int)+3)=64 * (q:Int)+4 * (i6:Int)+3:=IntWalk.i64_in _ (by omega)
    have n0:(64 * (q:Int)+4 * (i6:Int)).toNat=64 * q+4 * i6:=by omega
    have n1:(64 * (q:Int)+4 * (i6:Int)+1).toNat=64 * q+(4 * i6+1):=by omega
    have n2:(64 * (q:Int)+4 * (i6:Int)+2).toNat=64 * q+(4 * i6+2):=by omega
    have n3:(64 * (q:Int)+4 * (i6:Int)+3).toNat=64 * q+(4 * i6+3):=by omega
    have n4:0≤64 * (q:Int)+4 * (i6:Int):=by omega
    have n6:(i6:Int) < 64:=by omega
    have n4b:0≤64 * (q:Int)+4 * (i6:Int)+1:=by omega
    have n4c:0≤64 * (q:Int)+4 * (i6:Int)+2:=by omega
    have n4d:0≤64 * (q:Int)+4 * (i6:Int)+3:=by omega
    have n5:64 * (q:Int)+4 * (i6:Int) < 64 * (Q:Int):=by omega
    have n5b:64 * (q:Int)+4 * (i6:Int)+1 < 64 * (Q:Int):=by omega
    have n5c:64 * (q:Int)+4 * (i6:Int)+2 < 64 * (Q:Int):=by omega
    have n5d:64 * (q:Int)+4 * (i6:Int)+3 < 64 * (Q:Int):=by omega
    go_wp2_with fail
    refine wp_region_still_tail 31 (by kernel_rfl) (by kernel_rfl) ?_
    simp only [List.take_succ_cons,List.take_zero,List.drop_succ_cons,List.drop_zero]
    repeat still_step
    refine wpStill_nil ?_
    change wpList _ _ _ _ _ wr.drew
    go_wp2_with fail
    clear j1 j2 j3 j4 j5 n0 n1 n2 n3 n4 n6 n4b n4c n4d n5 n5b n5c n5d
    go_roundw
    case rel=>exact ⟨i6+1,by omega,by go_num,(HR4.out _).drew,G1.out _ (by rw [wr24 p0 b00 b01,wr16 p1 b10 b11,wr8 p2 b20 b21])⟩
    case measure=>simp [intOf];omega
   ·rw [show i6=16 by omega,show 4 * 16=64 from rfl] at hb
    have EY:=Lib.hid hR
    have hb5:wr.heap[wo.heap.size]? = some (.cells (arr .u32 (sched bl 0)) 64 (0,0)):=hb
    have gu:=Lib.hid hb5
    clear hR hb hb5
    go_wp2_with fail
    go_loopw [9] (fun i wr=>∃ t:Nat,16≤t∧t≤64∧i = .int .i64 t∧dN w wr lim sm (64 * Q) cm pm hv0∧wr.heap[wo.heap.size]? = some (.cells (arr .u32 (sched bl (t - 16))) 64 (0,0))) (fun i _=>64 - (intOf i).toNat)
    case atStart=>exact ⟨16,by omega,by omega,rfl,EY.out,gu.out⟩
    clear EY gu
    case round =>
    obtain ⟨t,h16,ht,rfl,hR,g1⟩:=hrel
    by_cases hltt:t < 64
    ·have hsl:=mE bl (t - 16)
     have x2:=aU g1 (t - 2) (by omega)
     have x7:=aU g1 (t - 7) (by omega)
     have x15:=aU g1 (t - 15) (by omega)
     have x16:=aU g1 (t - 16) (by omega)
     have xt:=aU g1 t (by omega)
     have xf:=aC g1 t
     have hnx:sched bl (t - 16+1)=(sched bl (t - 16)).set t (next (sched bl (t - 16)) t):=by
      have:=kU bl (t - 16)
      rwa [show 16+(t - 16)=t by omega] at this
     have g1':=bK g1 t (next (sched bl (t - 16)) t)
     rw [← hnx,show t - 16+1=t+1 - 16 by omega] at g1'
     have G1:Hid (∀ v,v=next (sched bl (t - 16)) t→(wr.setCell ⟨wo.heap.size,t,none⟩ (.int .u32 v)).heap[wo.heap.size]? = some (.cells (arr .u32 (sched bl (t+1 - 16))) 64 (0,0))):=Lib.hid (by rintro v rfl;exact g1')
     have Mx:=Lib.hid (fun v=>hR.far wo.heap.size t wS.out v)
     clear g1 g1' hR hsl hnx
     unfold next at G1
     generalize (sched bl (t - 16)).getD (t - 2) 0=y2 at x2 G1
     generalize (sched bl (t - 16)).getD (t - 7) 0=y7 at x7 G1
     generalize (sched bl (t - 16)).getD (t - 15) 0=y15 at x15 G1
     generalize (sched bl (t - 16)).getD (t - 16) 0=y16 at x16 G1
     have i15:IntKind.i64.wrap ((t:Int) - 15)=(t:Int) - 15:=IntWalk.i64_in _ (by omega)
     have i2:IntKind.i64.wrap ((t:Int) - 2)=(t:Int) - 2:=IntWalk.i64_in _ (by omega)
     have i7:IntKind.i64.wrap ((t:Int) - 7)=(t:Int) - 7:=IntWalk.i64_in _ (by omega)
     have i16:IntKind.i64.wrap ((t:Int) - 16)=(t:Int) - 16:=IntWalk.i64_in _ (by omega)
     have n15:((t:Int) - 15).toNat=t - 15:=by omega
     have n2:((t:Int) - 2).toNat=t - 2:=by omega
     have n7:((t:Int) - 7).toNat=t - 7:=by omega
     have n16:((t:Int) - 16).toNat=t - 16:=by omega
     have p16:16≤(t:Int):=by omega
     have p7:7≤(t:Int):=by omega
     have q16:(t:Int) - 16 < 64:=by omega
     have q7:(t:Int) - 7 < 64:=by omega
     have qt:(t:Int) < 64:=by omega
     go_wp2_with fail
     refine wp_region_still_tail 29 (by kernel_rfl) (by kernel_rfl) ?_
     simp only [List.take_succ_cons,List.take_zero,List.drop_succ_cons,List.drop_zero]
     repeat still_step
     (refine wpStill_step (fun K hK=>?_);go_simp;refine Exists.intro _ (And.intro (wI (ror_7 _ _)) ?_);refine hK _ ?_;clear hK K)
     repeat still_step
     (refine wpStill_step (fun K hK=>?_);go_simp;refine Exists.intro _ (And.intro (wI (JF _ _)) ?_);refine hK _ ?_;clear hK K)
     repeat still_step
     (refine wpStill_step (fun K hK=>?_);go_simp;refine Exists.intro _ (And.intro (wI (ror_17 _ _)) ?_);refine hK _ ?_;clear hK K)
     repeat still_step
     (refine wpStill_step (fun K hK=>?_);go_simp;refine Exists.intro _ (And.intro (wI (JE _ _)) ?_);refine hK _ ?_;clear hK K)
     repeat still_step
     refine wpStill_nil ?_
     change wpList _ _ _ _ _ wr.drew
     go_wp2_with fail
     clear i15 i2 i7 i16 n15 n2 n7 n16 p16 p7 q16 q7 qt
     go_roundw
     case rel=>exact ⟨t+1,by omega,by omega,by go_num,(Mx.out _).drew,G1.out _ (Y9 y16 (s0 y15) y7 (s1 y2))⟩
     case measure=>simp [intOf];omega
    ·obtain rfl:t=64:=by omega
     obtain ⟨ws,hws⟩:∃ ws,ws=sched bl (64 - 16):=⟨_,rfl⟩
     rw [← hws] at g1
     have hwl:ws.length=64:=by rw [hws];exact mE _ _
     have hp8:((arr .u32 hv0).toList.drop 0).take hv0.length=hv0.map (Value.int .u32):=by rw [List.drop_zero,bQ,List.take_of_length_le (by simp)]
     have qZ:(Tryd.prog.info? 62).map (·.size)=some hv0.length:=by rw [hR.hl];exact sW
     have z3:(Tryd.prog.info? 62).map (·.size)=some (arr .u32 hv0).size:=by rw [aF,hR.hl];exact sW
     have z4:(arr .u32 hv0).size=(arr .u32 (List.replicate 8 0)).size:=by rw [aF,aF,hR.hl,List.length_replicate]
     have HWS:=Lib.hid hws
     have vN:=Lib.hid hwl
     have HP8:=Lib.hid hp8
     have HZ8:=Lib.hid qZ
     have Z3:=Lib.hid z3
     have Z4:=Lib.hid z4
     have rZ:=Lib.hid (bf g1 (.cells (arr .u32 (List.replicate 8 0)) 62))
     have og:=Lib.hid (aR g1)
     have HH:=Lib.hid hR.h
     have BL:=Lib.hid (hR.alloc (.cells (arr .u32 (List.replicate 8 0)) 62))
     have HA8:=Lib.hid (aL wr (.cells (arr .u32 (List.replicate 8 0)) 62))
     have Dj:=Lib.hid hR.sz
     obtain ⟨wp,rfl⟩:∃ wp:World,wp=wr:=⟨_,rfl⟩
     clear hws hwl hp8 qZ z3 z4 g1 hR
     go_wp2_with (first|((with_reducible refine aS 110 ?_);refine ak rfl 62 _ rfl (w.heap.size+1) 0 _ 62 (0,0) _ HH.out rfl .u32 hv0 HP8.out Tryd.underlying62 rfl HZ8.out ?_)|((with_reducible refine aS 12 ?_);refine aj rfl 62 rfl _ (Ga _) ?_)|((with_reducible show wpList _ _ _ (Oper.mk none _ _ _ _ _ :: _) _ _);refine ah rfl 62 _ _ rfl wp.heap.size _ _ 62 HA8.out rfl rfl Z4.out Z3.out (av _ _) ?_;intro w5 hb5 hk5 Rh;have vP:=Lib.hid (BL.out.kept hk5 (by rintro i rfl;exact Dj.out));have fM:=Lib.hid hb5;have S9:=Lib.hid (hk5.blk rZ.out (by have:=og.out;omega));clear hb5 hk5 Rh))
     go_loopw [13] (fun i wq=>∃ j:Nat,j≤64∧i = .int .i64 j∧dN w wq lim sm (64 * Q) cm pm hv0∧wq.heap[wo.heap.size]? = some (.cells (arr .u32 ws) 64 (0,0))∧wq.heap[wp.heap.size]? = some (.cells (arr .u32 (rounds ws hv0 j)) 62 (0,0))) (fun i _=>64 - (intOf i).toNat)
     case atStart=>exact ⟨0,Nat.zero_le _,rfl,vP.out,S9.out,fM.out⟩
     clear BL vP fM S9 HA8 rZ HH
     case round =>
     obtain ⟨j,hj,rfl,hR,hw,hv⟩:=hrel
     by_cases hltj:j < 64
     ·have hvl:=kV ws hv0 HHL.out j
      have x0:=aU hv 0 (by omega)
      have x1:=aU hv 1 (by omega)
      have x2:=aU hv 2 (by omega)
      have x3:=aU hv 3 (by omega)
      have x4:=aU hv 4 (by omega)
      have x5:=aU hv 5 (by omega)
      have x6:=aU hv 6 (by omega)
      have x7:=aU hv 7 (by omega)
      have xk:=hR.tab j hltj
      have xw:=aU hw j (by rw [vN.out];omega)
      have HN:Hid (∀ cs,cs=arr .u32 (rnd (K.getD j 0) (ws.getD j 0) (rounds ws hv0 j))→cs=arr .u32 (rounds ws hv0 (j+1))):=Lib.hid (by rintro cs rfl;rw [rounds_succ])
      have HV8:=Lib.hid hvl
      have HB2:=Lib.hid hw
      have HB3:=Lib.hid hv
      have EX:=Lib.hid hR
      clear hw hv hR hvl
      unfold rnd tx ty at HN
      generalize (rounds ws hv0 j).getD 0 0=v0 at x0 HN
      generalize (rounds ws hv0 j).getD 1 0=v1 at x1 HN
      generalize (rounds ws hv0 j).getD 2 0=v2 at x2 HN
      generalize (rounds ws hv0 j).getD 3 0=v3 at x3 HN
      generalize (rounds ws hv0 j).getD 4 0=v4 at x4 HN
      generalize (rounds ws hv0 j).getD 5 0=v5 at x5 HN
      generalize (rounds ws hv0 j).getD 6 0=v6 at x6 HN
      generalize (rounds ws hv0 j).getD 7 0=v7 at x7 HN
      generalize K.getD j 0=kt at xk HN
      generalize ws.getD j 0=wt at xw HN
      go_wp2_with fail
      refine wp_region_still_lit (by kernel_rfl) (by kernel_rfl) ?_
      repeat still_step
      (refine wpStill_step (fun K hK=>?_);go_simp;refine Exists.intro _ (And.intro (wI (ror_6 _ _)) ?_);refine hK _ ?_;clear hK K)
      repeat still_step
      (refine wpStill_step (fun K hK=>?_);go_simp;refine Exists.intro _ (And.intro (wI (ror_11 _ _)) ?_);refine hK _ ?_;clear hK K)
      repeat still_step
      (refine wpStill_step (fun K hK=>?_);go_simp;refine Exists.intro _ (And.intro (wI (ror_25 _ _)) ?_);refine hK _ ?_;clear hK K)
      repeat still_step
      refine wpStill_nil ?_
      go_wp2_with fail
      have y1:wr.drew.cell? ⟨wp.heap.size,1,none⟩=some (.int .u32 v1):=x1
      have y2:wr.drew.cell? ⟨wp.heap.size,2,none⟩=some (.int .u32 v2):=x2
      have y3:wr.drew.cell? ⟨wp.heap.size,3,none⟩=some (.int .u32 v3):=x3
      have y5:wr.drew.cell? ⟨wp.heap.size,5,none⟩=some (.int .u32 v5):=x5
      have y6:wr.drew.cell? ⟨wp.heap.size,6,none⟩=some (.int .u32 v6):=x6
      have PV:Hid (wr.drew.heap[wo.heap.size]? = some (.cells (arr .u32 ws) 64 (0,0))):=HB2
      have HC3:Hid (wr.drew.heap[wp.heap.size]? = some (.cells (arr .u32 (rounds ws hv0 j)) 62 (0,0))):=HB3
      have pW:=Lib.hid EX.out.drew
      clear x0 x1 x2 x3 x4 x5 x6 x7 xk xw HB2 HB3 EX
      generalize wr.drew=w6 at y1 y2 y3 y5 y6 PV HC3 pW ⊢
      refine wp_region_still_lit (by kernel_rfl) (by kernel_rfl) ?_
      repeat still_step
      (refine wpStill_step (fun K hK=>?_);go_simp;refine Exists.intro _ (And.intro (wI (ror_2 _ _)) ?_);refine hK _ ?_;clear hK K)
      repeat still_step
      (refine wpStill_step (fun K hK=>?_);go_simp;refine Exists.intro _ (And.intro (wI (ror_13 _ _)) ?_);refine hK _ ?_;clear hK K)
      repeat still_step
      (refine wpStill_step (fun K hK=>?_);go_simp;refine Exists.intro _ (And.intro (wI (ror_22 _ _)) ?_);refine hK _ ?_;clear hK K)
      repeat still_step
      refine wpStill_nil ?_
      go_wp2_with ((with_reducible show wpList _ _ _ (Oper.mk none _ _ _ _ _ :: _) _ _);refine lN rfl 62 _ _ rfl wp.heap.size .u32 _ 62 HC3.out rfl _ _ _ _ _ _ _ _ rfl HV8.out sW ?_;intro w4 hb4 hk4 hz4;have qE:=Lib.hid hb4;have HK4:=Lib.hid hk4;clear hb4 hk4 hz4)
      go_wp2_with fail
      go_roundw
      case rel =>
       refine ⟨j+1,by omega,by go_num,pW.out.drew.kept HK4.out (by rintro i rfl;exact Dj.out),HK4.out.blk PV.out (by have:=og.out;omega),?_⟩
       rw [qE.out]
       exact congrArg (fun c=>some (Obj.cells c 62 (0,0))) (HN.out _ (congrArg (arr .u32) (zo (flat7 v7 (e1 v4) (ch v4 v5 v6) kt wt (e0 v0) (maj v0 v1 v2)) rfl rfl rfl (flat6 v3 v7 (e1 v4) (ch v4 v5 v6) kt wt) rfl rfl rfl)))
      case measure=>simp [intOf];omega
     ·obtain rfl:j=64:=by omega
      obtain ⟨vv,evv⟩:∃ vv,vv=rounds ws hv0 64:=⟨_,rfl⟩
      rw [← evv] at hv
      have hcomp:sums hv0 vv 8=comp hv0 bl:=by rw [evv,HWS.out];rfl
      have hvl:vv.length=8:=by rw [evv];exact kV ws hv0 HHL.out _
      have hne:w.heap.size+1≠wp.heap.size:=by have:=hR.lt3;have:=Dj.out;omega
      have HCOMP:=Lib.hid hcomp
      have FZ:=Lib.hid hvl
      have HNE:=Lib.hid hne
      have HVX:=Lib.hid hv
      have HRX:=Lib.hid hR
      clear evv hcomp hvl hne hv hR hw
      go_wp2_with fail
      go_loopw [18] (fun i wq=>∃ j8:Nat,j8≤8∧i = .int .i64 j8∧dN w wq lim sm (64 * Q) cm pm (sums hv0 vv j8)∧wq.heap[wp.heap.size]? = some (.cells (arr .u32 vv) 62 (0,0))) (fun i _=>8 - (intOf i).toNat)
      case atStart=>exact ⟨0,Nat.zero_le _,rfl,by rw [uQ];exact HRX.out,HVX.out⟩
      clear HRX HVX
      case round =>
      obtain ⟨j8,hj8,rfl,hR,hv⟩:=hrel
      by_cases hl8:j8 < 8
      ·have y0:=aU hR.h j8 (by rw [hR.hl];exact hl8)
       rw [yK hv0 vv j8 j8 (by rw [HHL.out];exact hl8) (Nat.le_refl _)] at y0
       have y1:=aU hv j8 (by rw [FZ.out];exact hl8)
       have y2:=aC hR.h j8
       have S1:Hid (∀ x,x=add (hv0.getD j8 0) (vv.getD j8 0)→dN w (wr.setCell ⟨w.heap.size+1,j8,none⟩ (.int .u32 x)) lim sm (64 * Q) cm pm (sums hv0 vv (j8+1))):=Lib.hid (by rintro x rfl;rw [uR hv0 vv j8 (by rw [HHL.out];exact hl8)];exact hR.seth j8 _)
       have HG:=Lib.hid hv
       clear hv hR
       generalize hv0.getD j8 0=hj0 at y0 S1
       generalize vv.getD j8 0=vj at y1 S1
       go_wp2_with fail
       go_region
       go_wp2_with fail
       go_roundw
       case rel=>exact ⟨j8+1,by omega,by go_num,(S1.out _ (Za _ _)).drew,aB HG.out _ (Ne.symm HNE.out)⟩
       case measure=>simp [intOf];omega
      ·have e8:j8=8:=by omega
       rw [e8,HCOMP.out,← HSU.out] at hR
       have F4:=Lib.hid hR
       clear e8 hv hR
       go_wp2_with fail
       go_roundw
       case rel=>exact ⟨q+1,by omega,by go_num,F4.out⟩
       case measure=>simp [intOf];omega
 ·obtain rfl:q=Q:=by omega
  have hend:=HEND.out
  obtain ⟨hf,ehf⟩:∃ hf,hf=ji pm q:=⟨_,rfl⟩
  rw [← ehf] at hR hend
  have hdl:(digest hf).length=32:=by simp [digest]
  have hfl:=hR.hl
  have dG:(wo.alloc (.cells (arr .u8 (List.replicate 32 0)) 23)).heap[wo.heap.size]? = some (.cells (arr .u8 ((digest hf).take 0 ++ List.replicate (32 - 0) 0)) 23 (0,0)):=aL _ _
  have wS:=Lib.hid hR.sz
  have vP:=Lib.hid (hR.alloc (.cells (arr .u8 (List.replicate 32 0)) 23))
  have qd:=Lib.hid dG
  have HE2:=Lib.hid hend
  have x9:=Lib.hid hdl
  have HFL:=Lib.hid hfl
  clear hR hend ehf hdl hfl dG HEND HBYT
  go_wp2_with ((with_reducible refine aS 19 ?_);refine aj rfl 23 rfl _ (sK _) ?_)
  go_loopw [20] (fun i wr=>∃ i9:Nat,i9≤32∧i = .int .i64 i9∧wr.heap[wo.heap.size]? = some (.cells (arr .u8 ((digest hf).take i9 ++ List.replicate (32 - i9) 0)) 23 (0,0))∧dN w wr lim sm (64 * q) cm pm hf) (fun i _=>32 - (intOf i).toNat)
  case atStart=>exact ⟨0,Nat.zero_le _,rfl,qd.out,vP.out⟩
  clear qd vP
  case round =>
  obtain ⟨i9,hi9,rfl,hb,hR⟩:=hrel
  by_cases Kl:i9 < 32
  ·have y0:=aU hR.h (i9 / 4) (by rw [hR.hl];omega)
   have y1:=aU hb i9 (by simp [x9.out];omega)
   have y2:=aC hb i9
   have G1:Hid (∀ v,v=hf.getD (i9 / 4) 0 / 2 ^ (8 * (3 - i9 % 4)) % 256→(wr.setCell ⟨wo.heap.size,i9,none⟩ (.int .u8 v)).heap[wo.heap.size]? = some (.cells (arr .u8 ((digest hf).take (i9+1) ++ List.replicate (32 - (i9+1)) 0)) 23 (0,0))):=Lib.hid (by
    rintro v rfl
    rw [bK hb,EH hf i9 Kl _ (dA hf i9 Kl).symm])
   have EW:=Lib.hid (fun v=>hR.far wo.heap.size i9 wS.out v)
   have e1:(24 - 8 * ((i9:Int) % 4)).toNat=8 * (3 - i9 % 4):=by omega
   have e2:0≤24 - 8 * ((i9:Int) % 4):=by omega
   have e3:24 - 8 * ((i9:Int) % 4)≤24:=by omega
   clear hb hR
   generalize hf.getD (i9 / 4) 0=x at y0 G1
   go_wp2_with fail
   clear e1 e2 e3
   go_roundw
   case rel=>exact ⟨i9+1,by omega,by go_num,G1.out _ (uy _),EW.out _⟩
   case measure=>simp [intOf];omega
  ·rw [show i9=32 by omega,Nat.sub_self,List.replicate_zero,List.append_nil,List.take_of_length_le (by rw [x9.out];omega)] at hb
   have z1:(Tryd.prog.info? 23).map (·.size)=some (digest hf).length:=by rw [x9.out];exact sV
   have z2:(Tryd.prog.info? 23).map (·.size)=some (arr .u8 (digest hf)).size:=by rw [aF,x9.out];exact sV
   have z3:(arr .u8 (digest hf)).size=(arr .u8 (List.replicate 32 0)).size:=by rw [aF,aF,x9.out,List.length_replicate]
   have z4:((arr .u8 (digest hf)).toList.drop 0).take (digest hf).length=(digest hf).map (Value.int .u8):=by rw [bQ,List.drop_zero,List.take_of_length_le (by simp)]
   have HB:=Lib.hid hb
   have F4:=Lib.hid hR
   have ZZ1:=Lib.hid z1
   have ZZ2:=Lib.hid z2
   have ZZ3:=Lib.hid z3
   have ZZ4:=Lib.hid z4
   clear hb hR z1 z2 z3 z4
   go_wp2_with (first|((with_reducible refine aS 222 ?_);refine ak rfl 23 _ rfl wo.heap.size 0 _ 23 (0,0) _ HB.out rfl .u8 (digest hf) ZZ4.out Tryd.underlying23 rfl ZZ1.out ?_)|((with_reducible show wpList _ _ _ (Oper.mk none _ _ _ _ _ :: _) _ _);refine ah rfl 23 _ _ rfl w.heap.size _ _ 23 F4.out.res rfl rfl ZZ3.out ZZ2.out (av _ _) ?_;intro w7 dV iA kZ;have eX:=Lib.hid dV;have HK7:=Lib.hid iA;clear dV iA kZ))
   (try simp only [Exit.inBlock,Exit.then])
   refine bodyPost_ret (results_cell_row rfl _ _ w.heap.size 23 _ (0,0) _ rfl eX.out Tryd.underlying23 rfl ZZ2.out) rfl ?_
   rw [HE2.out]
   exact ⟨rfl,F4.out.below.trans (HK7.out.toBelow F4.out.below.size (by rintro i rfl;exact Nat.le_refl _))⟩
end Go.Proofs.YthdgbgleklkaiaaDoor.Ha
namespace Go.Proofs.YthdgbgleklkaiaaDoor
open Go.RowKit
theorem info_tB:(Tryd.prog.info? 24).map (fun i=>(i.zero,i.size,i.bytes))=some (some (.slice none 0 0),1,24):=by kernel_rfl
theorem nC {T:Nat→Prop} {w w':World} {B:Nat} {e:TypeId} {size:Nat} {v:Value} {k:Nat} {xs:List Value} (h:w.ownsRow B e size v k xs) (hk:Kept T w w') (hT:∀ g,v.ownBlock=some g→¬ T g):w'.ownsRow B e size v k xs:=by
 obtain ⟨h1,h2⟩:=h
 refine ⟨h1,?_⟩
 rcases h2 with h0|⟨g,cap,cur,rfl,hB,hg,hr⟩
 ·exact .inl h0
 ·exact .inr ⟨g,cap,cur,rfl,hB,hk.blk hg (hT g rfl),hr⟩
theorem J6 {w w':World} {r:Option Nat} (h:w.grownBy w' r):Kept (fun g=>r=some g) w w' :=
 ⟨h.os,h.tape,h.output,h.size,fun k hk ht=>h.block k hk (fun e=>ht e.symm)⟩
def dS (w:World) (B:Nat) (v:Value) (L:List (List Int)):Prop :=
 ∃ vs:List Value,w.ownsRow B 24 1 v L.length vs∧vs.length=L.length∧∀ i,i < L.length→jQ w B (vs.getD i undef) (L.getD i [])
theorem dS.nil (w:World) (B:Nat):dS w B (.slice none 0 0) []:=⟨[],⟨by simp, .inl ⟨rfl,rfl⟩⟩,rfl,fun i h=>absurd h (by simp)⟩
theorem dS.below {w w':World} {B:Nat} {v:Value} {L:List (List Int)} (h:dS w B v L) (k:Below w.heap.size w w'):dS w' B v L:=by
 obtain ⟨vs,h1,h2,h3⟩:=h
 exact ⟨vs,nC (T:=fun _=>False) h1 (Kept.of_below k) (fun _ _=>id),h2,fun i hi=>(h3 i hi).kept (T:=fun _=>False) (Kept.of_below k) (fun _ _ _=>id)⟩
theorem dS.alloc {w:World} {B:Nat} {v:Value} {L:List (List Int)} (h:dS w B v L) (o:Obj):dS (w.alloc o) B v L:=h.below ((Below.refl _ w).alloc (Nat.le_refl _) o)
theorem dS.drew {w:World} {B:Nat} {v:Value} {L:List (List Int)} (h:dS w B v L):dS w.drew B v L:=h
theorem dS.drewN {w:World} {B:Nat} {v:Value} {L:List (List Int)} (h:dS w B v L) (n:Nat):dS (w.drewN n) B v L:=h
theorem dS.lt {w:World} {B:Nat} {v:Value} {L:List (List Int)} (h:dS w B v L):∀ k,v.ownBlock=some k→B≤k∧k < w.heap.size:=by
 obtain ⟨vs,h1,h2,h3⟩:=h
 exact World.ownsRow.lt h1
theorem dS.form {w:World} {B:Nat} {v:Value} {L:List (List Int)} (h:dS w B v L) :
  ∃ sa c,v = .slice sa L.length c∧L.length≤c∧qD w sa L.length L∧(∀ a,sa=some a→a.spot=none):=by
 obtain ⟨vs,⟨h1,h2⟩,h3,h4⟩:=h
 rcases h2 with ⟨rfl,h0⟩|⟨g,cap,cur,rfl,hB,hg,hn,hm,hs,ht⟩
 ·have:L=[]:=List.eq_nil_of_length_eq_zero h0
  subst this
  exact ⟨none,0,rfl,by simp,⟨rfl,fun i hi=>absurd hi (by simp)⟩,fun a e=>by cases e⟩
 ·refine ⟨_,cap,rfl,hn,⟨rfl,fun i hi=>?_⟩,fun a e=>by cases e;rfl⟩
  obtain ⟨g',c',sp',e,hB',hg',hc',hm'⟩:=h4 i hi
  refine ⟨_,some ⟨g',0,none⟩,c',rfl,?_,by omega,Ob hg'⟩
  have e1:(⟨g,0,none⟩:Addr).add i=⟨g,i,none⟩:=by unfold Addr.add;split <;> simp_all
  have hl:=congrArg (fun l=>l[i]?) ht
  simp only [Nat.mul_one,List.getElem?_take,hi,if_true] at hl
  rw [e1,aG hg]
  have hv:vs[i]? = some (vs.getD i undef):=by simp [List.getD,show i < vs.length by omega]
  rw [hv,e] at hl
  simpa using hl
theorem CO {α:Type} (xs:List α) (x d:α) (i:Nat):(xs ++ [x]).getD i d=if i < xs.length then xs.getD i d else if i=xs.length then x else d:=by
 simp only [List.getD]
 by_cases h:i < xs.length
 ·rw [List.getElem?_append_left h,if_pos h]
 ·rw [if_neg h,List.getElem?_append_right (by omega)]
  by_cases e:i=xs.length
  ·rw [if_pos e,e];simp
  ·rw [if_neg e,List.getElem?_eq_none (by simp;omega)]
   rfl
theorem dS.snoc {w w':World} {B:Nat} {v v' x:Value} {L:List (List Int)} {l:List Int} (h:dS w B v L) (hx:jQ w B x l)
  (hr:∀ vs,w.ownsRow B 24 1 v L.length vs→w'.ownsRow B 24 1 v' (L.length+1) (vs ++ [x])) (hg:w.grownBy w' v.ownBlock):dS w' B v' (L ++ [l]):=by
 obtain ⟨vs,h1,h2,h3⟩:=h
 have hk:=J6 hg
 have far:∀ {y ys},jQ w B y ys→jQ w' B y ys:=by
  intro y ys hy
  obtain ⟨g,cap,sp,e,hB,hb,hc,hm⟩:=hy
  refine ⟨g,cap,sp,e,hB,hk.blk hb ?_,hc,hm⟩
  intro e2
  rcases h1.2 with ⟨rfl,_⟩|⟨g2,cap2,cur2,rfl,_,hb2,_⟩
  ·cases e2
  ·have:g2=g:=by simpa [Value.ownBlock] using e2
   subst this
   rw [hb] at hb2
   simp at hb2
 refine ⟨vs ++ [x],by rw [List.length_append];exact hr vs h1,by simp [h2],fun i hi=>?_⟩
 rw [CO,CO,h2]
 by_cases hlt:i < L.length
 ·rw [if_pos hlt,if_pos hlt]
  exact far (h3 i hlt)
 ·rw [if_neg hlt,if_neg hlt,if_pos (by simp at hi;omega),if_pos (by simp at hi;omega)]
  exact far hx
theorem Ul {w:World} {B:Nat} {v x:Value} {L:List (List Int)} {l:List Int} {ty:TypeId} (hown:dS w B v L) (hx:jQ w B x l) (hlen:L.length < 1099511627776) (hbase:B≤w.heap.size) :
  ∃ v' w',(Builtin.append_ #[44, 44] ty #[v, .slice (some ⟨w.heap.size,0,none⟩) 1 1]).run Tryd.prog (w.alloc (.cells #[x] 24)) = .ok v' w'∧dS w' B v' (L ++ [l])∧(w.alloc (.cells #[x] 24)).grownBy w' v.ownBlock:=by
 obtain ⟨i0,hi,hz0,hz1,hz2⟩:=info_parts info_tB
 obtain ⟨vs,h1,h2,h3⟩:=hown
 have hb1:Below w.heap.size w (w.alloc (.cells #[x] 24)):=(Below.refl _ w).alloc (Nat.le_refl _) _
 have hone:x.oneCell'=true:=by obtain ⟨g,c,sp,rfl,_⟩:=hx;rfl
 have h1':=nC (T:=fun _=>False) h1 (Kept.of_below hb1) (fun _ _=>id)
 obtain ⟨v',w',e1,e2,e3,e4,e5⟩:=run_append_own_at (P := Tryd.prog) (w.alloc (.cells #[x] 24)) B 44 ty 24 i0 (.slice none 0 0) 1 24 Tryd.underlying44 hi hz0 hz1 hz2 rfl (by decide) v L.length vs h1' ⟨w.heap.size,0,none⟩ 1 1 [x]
  rfl (by
   intro j u hj
   obtain rfl:j=0:=by
    rcases Nat.eq_zero_or_pos j with h0|h0
    ·exact h0
    ·rw [List.getElem?_eq_none (by simp;omega)] at hj;cases hj
   cases hj
   rw [show (⟨w.heap.size,0,none⟩:Addr).add 0=⟨w.heap.size,0,none⟩ from rfl,aG (aL w _)]
   rfl) (by simp [hone]) (by unfold maxLen;omega) (by omega) (by simp;omega)
 refine ⟨v',w',e1,?_,e3⟩
 exact dS.snoc (L:=L) ⟨vs,h1',h2,fun i hi=>(h3 i hi).kept (T:=fun _=>False) (Kept.of_below hb1) (fun _ _ _=>id)⟩ (hx.kept (T:=fun _=>False) (Kept.of_below hb1) (fun _ _ _=>id))
  (fun vs' hv'=>by
   have:vs'=vs:=by
    rcases hv'.2 with ⟨q,hq⟩|⟨g,cap,cur,q,_,hg,_,_,_,ht⟩
    ·have z1:=hv'.1;have z2:=h1'.1
     rw [hq] at z1 z2
     exact (List.eq_nil_of_length_eq_zero (by simpa using z1)).trans (List.eq_nil_of_length_eq_zero (by simpa using z2)).symm
    ·rcases h1'.2 with ⟨q',_⟩|⟨g2,cap2,cur2,q2,_,hg2,_,_,_,ht2⟩
     ·rw [q'] at q;cases q
     ·rw [q] at q2
      cases q2
      rw [hg] at hg2
      cases hg2
      rw [← ht,← ht2]
   rw [this]
   exact e2) e3
theorem lG {w:World} {ops:Array Oper} {rest:List Oper} {o:Oper} {a:Act} {Q:Exit→Act→World→Prop} (hgd:o.guard=none) (s y:Operand)
  (ho:o.op = .call { callee := .builtin .append,args := #[s,y],argTypes := #[44, 44] })
  (B:Nat) (v x:Value) (L:List (List Int)) (l:List Int) (hs:a.eval s=v) (hy:a.eval y = .slice (some ⟨w.heap.size,0,none⟩) 1 1) (hown:dS w B v L) (hx:jQ w B x l) (hlen:L.length < 1099511627776) (hbase:B≤w.heap.size)
  (h:∀ v' w',dS w' B v' (L ++ [l])→(w.alloc (.cells #[x] 24)).grownBy w' v.ownBlock→wpList Tryd.prog ops Q rest (a.put o.dst v') w'):wpList Tryd.prog ops Q (o :: rest) a (w.alloc (.cells #[x] 24)):=by
 refine wpList_plain hgd fun _ hK=>?_
 obtain ⟨v',w',hr,h2,h3⟩:=Ul (ty:=o.type) hown hx hlen hbase
 unfold Oper.wp execOp
 simp only [ho,resolve,invoke,builtin,Sem.run_bind,Sem.run_pure,Result.andThen_ok,List.map_toArray,List.map_cons,List.map_nil,hs,hy,hr]
 exact hK _ _ (h v' w' h2 h3)
end Go.Proofs.YthdgbgleklkaiaaDoor
