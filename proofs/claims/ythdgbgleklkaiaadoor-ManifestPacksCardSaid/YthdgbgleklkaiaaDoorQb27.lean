/- cert.May, cert.body: Certificates and stops in plain words, and what chapter 16's alive asks of them. cert.Check: Builds of a stop and of a certificate. cert.Stop: cert.Sign: More. Condition: as each theorem says. -/
import Derived.BigRegion
import Derived.Deep.LoopGhost
import Derived.Lib.SlBytesConst
import Derived.Test.YthdgbgleklkaiaaDoorQb04
import Derived.Test.YthdgbgleklkaiaaDoorQb05
import Derived.Test.YthdgbgleklkaiaaDoorQb06
import Derived.Test.YthdgbgleklkaiaaDoorQb11
import Derived.Test.YthdgbgleklkaiaaDoorQb15
import Derived.Test.YthdgbgleklkaiaaDoorQb16
import Derived.Test.YthdgbgleklkaiaaDoorQb17
import Derived.Test.YthdgbgleklkaiaaDoorQb26
open Go.Lib renaming hid→acD
open List renaming replicate→acE,length_map→acF,length_append→acG,drop_append→acH,drop_succ_cons→acM,drop_of_length_le→acN,take_of_length_le→acO,length_replicate→acQ,drop_eq_nil_of_le→acR,nil_append→acS,getElem?_cons_succ→acV,getElem?_append_right→acW,append_nil→acZ,mem_of_mem_take→adB,all_eq_true→adC,mem_of_getElem?→adD
open Option renaming map_some→acI
open Nat renaming mod_lt→acJ,le_trans→acK,le_refl→acP
open BitVec renaming ofInt→acL
open Array renaming all_append→acT,length_toList→acU,getElem?_modify→acX
set_option linter.unusedSimpArgs false
set_option linter.unusedVariables false
set_option maxRecDepth 100000
set_option maxHeartbeats 16000000
namespace Go.Proofs.YthdgbgleklkaiaaDoor.Ce
open Go.RowKit
def wZ (id:Int):Bool:=decide (0≤id) && decide (id≤2147483647)
theorem nT (id:Int) (w:World):Calls Tryd.prog 40 #[.int .i64 id] w fun e w'=>e = .returned (.bool (wZ id))∧w=w':=by
 go_enter Tryd.func40, Tryd.ntmps40
 go_wp2_with fail
 all_goals (try simp only [Exit.then])
 ·go_ret
  rename_i h
  refine ⟨?_,rfl⟩
  rw [wZ,decide_eq_true h,Bool.true_and]
  rfl
 ·go_ret
  rename_i h
  refine ⟨?_,rfl⟩
  rw [wZ,decide_eq_false (by omega),Bool.false_and]
  rfl
end Go.Proofs.YthdgbgleklkaiaaDoor.Ce
namespace Go.Proofs.YthdgbgleklkaiaaDoor.Ce
open Go.RowKit Lm Fp Cu Sl Sc
def oJ (id:Int) (key:Nat):List Int:=fq [80,67,67,84] [id] ++ n32 key
theorem TK (id:Int) (key:Nat):(oJ id key).length=44:=by rw [oJ,acG,dO,bX];rfl
theorem jW {bs ns:List Int} (h:bytes bs):bytes (fq bs ns):=by
 intro x hx
 simp only [fq,List.mem_append,List.mem_flatMap] at hx
 rcases hx with hx|⟨n,_,hx⟩
 ·exact h x hx
 ·exact lq n x hx
theorem Jj (id:Int) (key:Nat):bytes (oJ id key):=gX (jW (by unfold bytes;decide)) (eY key)
end Go.Proofs.YthdgbgleklkaiaaDoor.Ce
namespace Go.Proofs.YthdgbgleklkaiaaDoor.Ce
open Go.RowKit Lm Fp Cu Sl Sc
theorem rowS:Ud Tryd.prog 26 64:=⟨⟨_, Tryd.underlying26, rfl⟩,by kernel_rfl⟩
def isB (xs:List Int) (u:World) (v:Value):Prop:=∃ s c,v = .slice s xs.length c∧xs.length≤c∧Src u s xs.length xs
theorem isB.below {xs:List Int} (u u':World) (v:Value) (k:Below u.heap.size u u') (h:isB xs u v):isB xs u' v:=by
 obtain ⟨s,c,e,h1,h2⟩:=h
 exact ⟨s,c,e,h1,h2.below k⟩
theorem isB.own {xs:List Int} {u:World} {B:Nat} {v:Value} (h:aU u B v xs):isB xs u v:=by
 obtain ⟨s,c,e,h1,_,h2,_⟩:=h.form
 exact ⟨s,c,e,h1,h2⟩
def isL (L:List (List Int)) (u:World) (v:Value):Prop:=∃ g,v = .slice (some ⟨g,0,none⟩) L.length L.length∧oq u (some ⟨g,0,none⟩) L.length L
theorem isL.below {L:List (List Int)} (u u':World) (v:Value) (k:Below u.heap.size u u') (h:isL L u v):isL L u' v:=by
 obtain ⟨g,e,h1⟩:=h
 exact ⟨g,e,h1.below k⟩
def dn (id:Int) (ks gs:List Int):Array Value := #[.int .i64 id] ++ arr .u8 ks ++ arr .u8 gs
theorem abJ (id:Int) (ks gs:List Int):(dn id ks gs)[0]? = some (.int .i64 id):=by simp [dn,arr]
end Go.Proofs.YthdgbgleklkaiaaDoor.Ce
namespace Go.Proofs.YthdgbgleklkaiaaDoor.Ce
open Go.RowKit Lm Fp Cu Sl Sc
theorem qm (place:Nat→Option (Nat×Nat)) (X Y:List Value) (v:Value) (i off:Nat) (rest:List (Nat×Value)) (ho:off=X.length) (hp:place i=some (off,v.cells.size)) (hY:v.cells.size≤Y.length) :
  Instr.fill place (X ++ Y).toArray ((i,v) :: rest)=Instr.fill place (X ++ v.cells.toList ++ Y.drop v.cells.size).toArray rest:=by
 subst ho
 rw [DX _ _ _ _ _ X.length hp (by simp;omega)]
 congr 1
 simp only
 congr 1
 have e1:List.take X.length (X ++ Y)=X:=List.take_left' rfl
 have e2:List.drop (X.length+v.cells.size) (X ++ Y)=Y.drop v.cells.size:=by
  rw [acH,acR (by simp),Nat.add_sub_cancel_left,acS]
 rw [e1,e2]
theorem vg (w:World):(zeroValue 28).run Tryd.prog w = .ok (.agg (dn 0 (acE 32 0) (acE 64 0))) w:=by kernel_rfl
theorem kX:(Tryd.prog.info? 28).map (·.size)=some 97:=by kernel_rfl
theorem jJ {id:Int} {ks gs:List Int} (h:gs.length=64) (hk:ks.length=32):(dn id ks gs).size=97:=by simp [dn,arr,h,hk]
theorem Jm (w:World):(Instr.build 28 #[]).run Tryd.prog w = .ok (.agg (dn 0 (acE 32 0) (acE 64 0))) w:=by kernel_rfl
theorem Tp (id:Int) (ks gs:List Int) (hk:ks.length=32) (h:gs.length=64) (z:List Value) (hz:z.length=97):Instr.fill (fun x => #[((0:Nat),1),(1,32),(33,64)][x]?) z.toArray [(0, .int .i64 id),(1, .agg (arr .u8 ks)),(2, .agg (arr .u8 gs))]=some (dn id ks gs):=by
 have h0:=qm (fun x => #[((0:Nat),1),(1,32),(33,64)][x]?) [] z (.int .i64 id) 0 0 [(1, .agg (arr .u8 ks)),(2, .agg (arr .u8 gs))] rfl rfl (by simp [Value.cells,hz])
 have h1:=qm (fun x => #[((0:Nat),1),(1,32),(33,64)][x]?) [.int .i64 id] (z.drop 1) (.agg (arr .u8 ks)) 1 1 [(2, .agg (arr .u8 gs))] rfl (by simp [Value.cells,arr,hk]) (by simp [Value.cells,arr,hk,hz])
 have h2:=qm (fun x => #[((0:Nat),1),(1,32),(33,64)][x]?) ([.int .i64 id] ++ (arr .u8 ks).toList) ((z.drop 1).drop 32) (.agg (arr .u8 gs)) 2 33 [] (by simp [arr,hk]) (by simp [Value.cells,arr,h]) (by simp [Value.cells,arr,h,hz])
 have ek:(Value.agg (arr .u8 ks)).cells.size=32:=by simp [Value.cells,arr,hk]
 rw [acS] at h0
 rw [ek] at h1
 rw [h0]
 refine h1.trans (h2.trans ?_)
 rw [Instr.fill]
 have e:((z.drop 1).drop 32).drop (Value.agg (arr .u8 gs)).cells.size=[]:=acR (by simp [Value.cells,arr,h,hz])
 rw [e]
 simp [dn,Value.cells]
theorem Nj (id:Int) (ks gs:List Int) (hk:ks.length=32) (h:gs.length=64) (w:World):(Instr.build 28 #[(0, .int .i64 id),(1, .agg (arr .u8 ks)),(2, .agg (arr .u8 gs))]).run Tryd.prog w = .ok (.agg (dn id ks gs)) w:=by
 unfold Instr.build
 simp only [Sem.run_bind,vg,Result.andThen_ok,run_underlying Tryd.underlying28]
 refine (congrArg (fun R=>Result.andThen R _) (show _=Result.ok #[((0:Nat),1),(1,32),(33,64)] w from ?h)).trans ?_
 case h=>kernel_rfl
 simp only [Result.andThen_ok]
 have hf:=Tp id ks gs hk h (dn 0 (acE 32 0) (acE 64 0)).toList (by simp [dn,arr])
 rw [show (Value.agg (dn 0 (acE 32 0) (acE 64 0))).cells=(dn 0 (acE 32 0) (acE 64 0)).toList.toArray by simp [Value.cells],hf]
 rfl
end Go.Proofs.YthdgbgleklkaiaaDoor.Ce
namespace Go.Proofs.YthdgbgleklkaiaaDoor.Ce
open Go.RowKit Lm Fp Cu Sl Sc
theorem PO {k:IntKind} (l:List Int):(arr k l).all (·.oneCell')=true:=av _ _
end Go.Proofs.YthdgbgleklkaiaaDoor.Ce
namespace Go.Proofs.YthdgbgleklkaiaaDoor.Ce
open Go.RowKit Lm Fp Cu Sl Sc
theorem vT (id:Int) (ks gs:List Int):(dn id ks gs).all (·.oneCell')=true:=by
 rw [dn,acT,acT,PO,PO]
 simp [Value.oneCell']
def AY:Array Value:=dn 0 (acE 32 0) (acE 64 0)
def abI (root key:Nat) (id:Int):Value:=if wZ id=true then (if (iU key).isSome=true then .tuple #[.agg (dn id (n32 key) (kJ root (oJ id key))), .int .i64 0] else .tuple #[.agg AY, .int .i64 21]) else .tuple #[.agg AY, .int .i64 1]
end Go.Proofs.YthdgbgleklkaiaaDoor.Ce
namespace Go.Proofs.YthdgbgleklkaiaaDoor
open Go.RowKit
section
variable {P:Program} {Q:Exit→Act→World→Prop} {T:Nat→Prop} {w:World} {l:List Oper} {old:List (Nat×OP)} {sy:List Sy} {pt:List Put} {a:Act} {r:List Oper} {i:Nat} {o:Oper}
theorem VP {u:World} {g:Nat} {cs:Array Value} {t:TypeId} {fr:Nat×Nat} (hb:u.heap[g]? = some (.cells cs t fr)) (off:Nat) (ds:List Value) (h:∀ j v,ds[j]? = some v→cs[off+j]? = some v):u.rangeAt g off ds:=fun j v hj=>by
 rw [aF hb]
 exact h j v hj
theorem SyLa (hW:uZ l sy=true) (hr:dW P Q l T w old sy pt a r (i+1)) {ty:TypeId} {x:Operand} {ds:Array Value} {d:TypeDesc} (κ off:Nat) (cs:Array Value) (t:TypeId) (hds:∀ j v,ds.toList[j]? = some v→cs[off+j]? = some v) (hu:P.underlying ty=some d) (hd:d.isRow=true) (hi:(P.info? ty).map (·.size)=some ds.size)
  (ho:o.op = .load ty x:=by rfl) (hg:o.guard=none:=by rfl) (hs:sy[i]? = some (Yv (.agg ds)):=by rfl) (hq:gM sy pt i=true:=by kernel_rfl) (hrd:iD l i x=true:=by kernel_rfl) (hl:uy l old sy i κ=true:=by kernel_rfl)
  (hx:∀ f,sev l sy a f x = .pointer (some ⟨adr old f κ,off,none⟩):=by intro f;first|rfl|kernel_rfl) (hc:cont l old sy pt i κ=some (Cr cs t):=by kernel_rfl):dW P Q l T w old sy pt a (o :: r) i :=
 .cons (fun f b u K hJ hf hcl hup jc hK=>by
  obtain ⟨⟨ob,JR,hpo⟩, -⟩:=hJ.mem.mem κ _ _ (qR hJ hcl hf hup hc hl)
  have hpo:ob = .cells cs t (0,0):=hpo
  subst hpo
  rw [if_pos (fP hg)]
  refine wp_load_mid ty x ho _ off ((jl hJ hcl hup jc hrd).trans (hx f)) ds.toList d (VP JR off _ hds) hu hd (by rw [acU];exact hi) ?_
  rw [Array.toArray_toList]
  exact hK _ _ (hJ.upd hW hcl hf hup hs rfl (by rw [kY hf hq];exact hJ.mem) (fun _=>Below.refl _ _) (CL.no rfl))) hr
theorem SyX (hW:uZ l sy=true) (hr:dW P Q l T w old sy pt a r (i+1)) {v:Value} (xs:List Operand) (vs:List Value) (h:∀ (ρ:Operand→Value) (u:World),Kept T w u→xs.map ρ=vs→(execOp ρ o).run P u = .ok (.value v) u)
  (he:easy o.op=true:=by rfl) (hrd:o.op.operands.toList.all (iD l i)=true:=by kernel_rfl) (hv:∀ f,xs.map (sev l sy a f)=vs:=by intro f;first|rfl|kernel_rfl) (hg:o.guard=none:=by rfl) (hs:sy[i]? = some (Yv v):=by rfl) (hq:gM sy pt i=true:=by kernel_rfl):dW P Q l T w old sy pt a (o :: r) i :=
 SyV hW hr (fun f u hH _ _ _=>h _ u hH.keep (hv f)) (execOp_congr he) hrd hg hs hq
theorem KX {u u':World} (h:Kept (fun _=>False) u u'):Below u.heap.size u u':=⟨h.os,h.tape,h.output,h.size,fun i hi=>h.block i hi id⟩
end
end Go.Proofs.YthdgbgleklkaiaaDoor
namespace Go.Proofs.YthdgbgleklkaiaaDoor.Mf
open Go.RowKit Lm Fp Cu Sl Sc Ce
def aZ (v b:Int) (ro:List Int) (wv:Value) (i:Int) (ks gs ss:List Int):Array Value := #[.int .i64 v, .int .i64 b] ++ arr .u8 ro ++ #[wv, .int .i64 i] ++ arr .u8 ks ++ arr .u8 gs ++ arr .u8 ss
section
variable {v b i:Int} {ro ks gs ss:List Int} {wv:Value}
theorem bP:(aZ v b ro wv i ks gs ss).toList = .int .i64 v :: .int .i64 b :: (ro.map (Value.int .u8) ++ wv :: .int .i64 i :: (ks.map (Value.int .u8) ++ (gs.map (Value.int .u8) ++ ss.map (Value.int .u8)))):=by
 simp [aZ,arr]
theorem bK (h1:ro.length=32) (h2:ks.length=32) (h3:gs.length=64) (h4:ss.length=64):(aZ v b ro wv i ks gs ss).size=196:=by
 rw [← acU,bP]
 simp [h1,h2,h3,h4]
theorem qd {A:Array Value} {L:List Value} (h:A.toList=L) (k:Nat):A[k]? = L[k]? := by rw [← h];simp
theorem rW:(aZ v b ro wv i ks gs ss)[0]? = some (.int .i64 v):=by rw [qd bP];rfl
theorem lI:(aZ v b ro wv i ks gs ss)[1]? = some (.int .i64 b):=by rw [qd bP];rfl
theorem iq (h1:ro.length=32):(aZ v b ro wv i ks gs ss)[34]? = some wv:=by
 rw [qd bP]
 simp only [acV]
 rw [acW (by simp [h1])]
 simp [h1]
theorem lX (h1:ro.length=32):(aZ v b ro wv i ks gs ss)[35]? = some (.int .i64 i):=by
 rw [qd bP]
 simp only [acV]
 rw [acW (by simp [h1])]
 simp [h1]
theorem yF:((aZ v b ro wv i ks gs ss).toList.drop 2).take ro.length=ro.map (Value.int .u8):=by
 rw [bP]
 simp
theorem P8 (h1:ro.length=32):((aZ v b ro wv i ks gs ss).toList.drop 36).take ks.length=ks.map (Value.int .u8):=by
 rw [bP]
 simp only [acM,acH,acF,h1]
 simp [h1,acN]
theorem P9 (h1:ro.length=32) (h2:ks.length=32):((aZ v b ro wv i ks gs ss).toList.drop 68).take gs.length=gs.map (Value.int .u8):=by
 rw [bP]
 simp only [acM,acH,acF,h1,h2]
 simp [h1,h2,acN]
theorem uw (h1:ro.length=32) (h2:ks.length=32) (h3:gs.length=64):((aZ v b ro wv i ks gs ss).toList.drop 132).take ss.length=ss.map (Value.int .u8):=by
 rw [bP]
 simp only [acM,acH,acF,h1,h2,h3]
 simp [h1,h2,h3,acN,acO]
end
def gq (v b:Int) (wn:Nat) (i:Int):Bool:=wZ v && (decide (1≤b) && decide (b≤32)) && decide (wn=80) && wZ i
theorem nT {ro ks gs ss:List Int} (v b i:Int) (sw:Option Addr) (nw cw:Nat) (w:World) (h1:ro.length=32) :
  Calls Tryd.prog 23 #[.agg (aZ v b ro (.slice sw nw cw) i ks gs ss)] w fun e w'=>e = .returned (.bool (gq v b nw i))∧Below w.heap.size w w':=by
 have c0:(w.alloc (.cells (aZ v b ro (.slice sw nw cw) i ks gs ss) 30)).cell? ⟨w.heap.size,0,none⟩=some (.int .i64 v):=by rw [aF (aG w _)];exact rW
 have c1:(w.alloc (.cells (aZ v b ro (.slice sw nw cw) i ks gs ss) 30)).cell? ⟨w.heap.size,1,none⟩=some (.int .i64 b):=by rw [aF (aG w _)];exact lI
 have c2:(w.alloc (.cells (aZ v b ro (.slice sw nw cw) i ks gs ss) 30)).cell? ⟨w.heap.size,34,none⟩=some (.slice sw nw cw):=by rw [aF (aG w _)];exact iq h1
 have c3:(w.alloc (.cells (aZ v b ro (.slice sw nw cw) i ks gs ss) 30)).cell? ⟨w.heap.size,35,none⟩=some (.int .i64 i):=by rw [aF (aG w _)];exact lX h1
 have HB:=acD ((Below.refl _ w).alloc (acP _) (.cells (aZ v b ro (.slice sw nw cw) i ks gs ss) 30))
 clear h1
 generalize aZ v b ro (.slice sw nw cw) i ks gs ss=M at c0 c1 c2 c3 HB ⊢
 go_enter Tryd.func23, Tryd.ntmps23
 go_upto_region 1 with fail
 generalize w.alloc (.cells M 30)=wb at c0 c1 c2 c3 HB ⊢
 go_wp2_with ((with_reducible show Calls _ 40 _ _ _);go_at_call 40; refine (Ce.nT _ _).mono ?_;rintro e w1 ⟨rfl,rfl⟩)
 all_goals (try simp only [Exit.then])
 all_goals go_ret
 all_goals refine ⟨?_,HB.out⟩
 all_goals congr 2
 all_goals simp only [gq,wZ]
 all_goals clear c0 c1 c2 c3 HB
 all_goals (first|(simp_all;done)|(simp_all;omega)|(simp;omega))
end Go.Proofs.YthdgbgleklkaiaaDoor.Mf
namespace Go.Proofs.YthdgbgleklkaiaaDoor
open Go.RowKit
theorem Qv {w w':World} {v v':Value} {t u:TypeId} (h:(convert t u v).run Tryd.prog w = .ok v' w'):(do pure (Next.value (← convert t u v)):Sem Next).run Tryd.prog w = .ok (.value v') w':=by
 simp only [Sem.run_bind,h,Result.andThen_ok]
 rfl
theorem yG {P:Program} {Q:Exit→Act→World→Prop} {ops:Array Oper} {o:Oper} {b:Act} {u u':World} {K:Act→World→Prop} {E:Prop} (hgd:o.guard=none) (v:Value) (hrun:(execOp b.eval o).run P u = .ok (.value v) u') (h:K (b.put o.dst v) u') :
  if Region.wanted o (yielded ops b.tmps)=true then Oper.wp P o b u K Q else E:=by
 rw [if_pos (by simp [Region.wanted,hgd])]
 unfold Oper.wp
 rw [hrun]
 exact h
theorem Tz (w:World) (g n c:Nat) (C:Array Value) (hg:w.heap[g]? = some (.cells C 5 (0,0))) :
  ∃ w',(convert 24 24 (.slice (some ⟨g,0,none⟩) n c)).run Tryd.prog w = .ok (.slice (some ⟨g,0,none⟩) n c) w'∧w'.heap[g]? = some (.cells C 5 (C.size,C.size+1))∧Kept (fun x=>x=g) w w':=by
 have hsh:w.shape? g=some (5, C.size):=by
  unfold World.shape?
  rw [hg]
 refine ⟨w.freeze ⟨g,C.size,none⟩ 1,?_,?_,?_⟩
 ·simp [convert,run_underlying Tryd.underlying24, run_underlying Tryd.underlying5, markStringish,hsh]
 ·unfold World.freeze
  rw [if_neg (by decide)]
  simp only [acX,if_true,hg,acI]
  rfl
 ·unfold World.freeze
  rw [if_neg (by decide)]
  refine ⟨rfl,rfl,rfl,by simp,fun k hk hne=>?_⟩
  simp only [acX]
  rw [if_neg (fun e=>hne e.symm)]
def vI (a b c d:Int):Array Value := #[.int .u8 a, .int .u8 b, .int .u8 c, .int .u8 d]
theorem conv4 (w:World) (a b c d:Int):(convert 24 24 (.slice (some ⟨w.heap.size,0,none⟩) 4 4)).run Tryd.prog (w.alloc (.cells (vI a b c d) 5)) = .ok (.slice (some ⟨w.heap.size,0,none⟩) 4 4) (w.alloc (.cells (vI a b c d) 5 (4,5))) :=
 Lib.run_convert_bytes_const w 24 5 (vI a b c d) 4 4 Tryd.underlying24 Tryd.underlying5
theorem src4 {u:World} {g:Nat} {a b c d:Int} {fr:Nat×Nat} (h:u.heap[g]? = some (.cells (vI a b c d) 5 fr)):Src u (some ⟨g,0,none⟩) 4 [a,b,c,d]:=nL h rfl rfl
theorem Vt {u:World} {g:Nat} {x:Int} {t:TypeId} {fr:Nat×Nat} (h:u.heap[g]? = some (.cells #[.int .i64 x] t fr)):sH u (some ⟨g,0,none⟩) 1 [x]:=by
 refine ⟨rfl,fun i hi=>⟨_,rfl,?_⟩⟩
 obtain rfl:i=0:=by omega
 rw [show (⟨g,0,none⟩:Addr).add 0=⟨g,0,none⟩ from rfl,aF h]
 rfl
end Go.Proofs.YthdgbgleklkaiaaDoor
namespace Go.Proofs.YthdgbgleklkaiaaDoor
open Go.RowKit
theorem qw (p q:Nat) (xs:List Int) (bad:Bool) (n:Int) (w:World) (h:dQ w p q xs bad) (hl:xs.length≤1099511627776) :
  Calls Tryd.prog 18 #[.pointer (some ⟨p,0,none⟩), .int .i64 n] w fun e w'=>∃ v,e = .returned v∧aU w' w.heap.size v (jy xs bad n)∧dQ w' p q (oO xs bad n) (!jT xs bad n)∧Kept (· = p) w w':=by
 cases bad with
 | true =>
  refine (abD p q xs n w h).mono ?_
  rintro e w' ⟨rfl,rfl⟩
  exact ⟨_,rfl,aU.nil _ _,h,Kept.refl _ _⟩
 | false =>
  by_cases hn:n < 0∨(0≤n∧(xs.length:Int) < n)
  ·have e:jT xs false n=false:=by
    rw [← Bool.not_eq_true,je]
    omega
   refine (craw_no p q xs n w h hn).mono ?_
   rintro e' w' ⟨rfl,hc,hk, -⟩
   refine ⟨_,rfl,?_,?_,hk⟩
   ·rw [jy,e];exact aU.nil _ _
   ·rw [oO,e];exact hc
  ·obtain ⟨k,rfl⟩:=Int.eq_ofNat_of_zero_le (show 0≤n by omega)
   have e:jT xs false (k:Int)=true:=je.2 ⟨rfl,by omega,by omega⟩
   refine (craw_ok p q xs k w h (by omega) hl).mono ?_
   rintro e' w' ⟨v,rfl,ho,hc,hk⟩
   refine ⟨_,rfl,?_,?_,hk⟩
   ·rw [jy,e];exact ho
   ·rw [oO,e];exact hc
def CY (ys:List Int):Int:=ys.foldl (fun u x=>bits .or .u64 (IntKind.u64.wrap (u * 256)) (IntKind.u64.wrap x)) 0
def Ak (xs:List Int) (bad:Bool):Int:=wrap64 (CY (jy xs bad 8))
theorem Ef (ys:List Int) (j:Nat) (hj:j < ys.length):CY (ys.take (j+1))=bits .or .u64 (IntKind.u64.wrap (CY (ys.take j) * 256)) (IntKind.u64.wrap (ys.getD j 0)):=by
 rw [gD ys j 0 hj,CY,List.foldl_append]
 rfl
theorem AX (p q:Nat) (xs:List Int) (bad:Bool) (w:World) (h:dQ w p q xs bad) (hl:xs.length≤1099511627776) :
  Calls Tryd.prog 19 #[.pointer (some ⟨p,0,none⟩)] w fun e w'=>e = .returned (.int .i64 (Ak xs bad))∧dQ w' p q (oO xs bad 8) (!jT xs bad 8)∧Kept (· = p) w w':=by
 have HR:=acD (qw p q xs bad 8 w h hl)
 have HV:Hid (Ak xs bad=wrap64 (CY (jy xs bad 8))):=acD rfl
 have h8:(jy xs bad 8).length≤8:=by unfold jy;split <;> simp <;> omega
 clear h hl
 generalize Ak xs bad=iv at HV
 generalize jy xs bad 8=ys at HR HV h8
 go_enter Tryd.func19, Tryd.ntmps19
 go_upto_region 2 with fail
 go_wp2_with (go_at_call 18; refine HR.out.mono ?_;rintro e w1 ⟨v1,rfl,ho1,hc1,hk1⟩;have yX:=acD (And.intro hc1 hk1);obtain ⟨s1,c1,rfl,hcc,hm1,hs1, -⟩:=ho1.form;have iO:=acD hs1;clear hc1 hk1 ho1 hs1 hm1)
 generalize hln:ys.length=ln
 have GQ:=acD hln
 rw [hln] at iO
 rw [hln] at h8
 clear hln hcc
 go_loopw [3,9] (fun u i wr=>∃ j:Nat,j≤ln∧i = .int .i64 j∧u = .int .u64 (CY (ys.take j))∧wr=w1) (fun _ i _=>ln - (intOf i).toNat)
 case atStart=>exact ⟨0,Nat.zero_le _,rfl,rfl,rfl⟩
 case round =>
  obtain ⟨j,hj,rfl,rfl,rfl⟩:=hrel
  by_cases hlt:j < ln
  ·obtain ⟨a,rfl,x0⟩:=iO.out.cell j hlt
   have HB:=acD (Ef ys j (by rw [GQ.out];exact hlt))
   generalize CY (ys.take j)=u at HB
   generalize ys.getD j 0=x at HB x0
   go_wp2_with fail
   go_roundw
   case rel=>exact ⟨j+1,by omega,by go_num,by rw [HB.out],trivial⟩
   case measure=>simp [intOf];omega
  ·have e:ys.take j=ys:=acO (by rw [GQ.out];omega)
   rw [e]
   have hv:=HV.out
   generalize CY ys=u at hv
   subst hv
   clear HV
   go_wp2_with fail
   go_ret
   exact ⟨rfl,yX.out⟩
end Go.Proofs.YthdgbgleklkaiaaDoor
namespace Go.Proofs.YthdgbgleklkaiaaDoor
open Go.RowKit
theorem RJ (w:World) (ty:TypeId) (g off m c n cs:Nat) (sa:Option Addr) (cur:Array Value) (xs:List Int) (t:TypeId) (hg:w.heap[g]? = some (.cells cur t (0,0))) (hsrc:Src w sa n xs) (hnm:n≤m) (hfit:off+n≤cur.size) :
  ∃ w',(Builtin.copy_ #[24, 24] ty #[.slice (some ⟨g,off,none⟩) m c, .slice sa n cs]).run Tryd.prog w = .ok (.int .i64 (n:Int)) w'∧w'.heap[g]? = some (.cells (cur.toList.take off ++ xs.map (Value.int .u8) ++ cur.toList.drop (off+n)).toArray t (0,0))∧Kept (fun x=>x=g) w w':=by
 have hl:=hsrc.len
 rcases Nat.eq_zero_or_pos n with h0|h0
 ·subst h0
  refine ⟨w,run_copy_none (P := Tryd.prog) w 24 24 ty 5 _ sa m c 0 cs Tryd.underlying24 (by kernel_rfl) (by simp),?_,Kept.refl _ _⟩
  rw [List.eq_nil_of_length_eq_zero hl,List.map_nil,acZ,Nat.add_zero,List.take_append_drop]
  exact hg
 ·obtain ⟨ad,rfl, -⟩:=hsrc.cell 0 h0
  have hrun:=run_copy_row (P := Tryd.prog) w 24 24 ty 5 g off m c ad n cs cur t (xs.map (Value.int .u8)) Tryd.underlying24 (by kernel_rfl) hg (by rw [acF,hl];exact (Nat.min_eq_left hnm).symm) (jk hsrc _ rfl) (by rw [acF,hl];exact hfit) (mQ _ _)
  rw [acF,hl] at hrun
  exact ⟨_,hrun,setRow_heap w g _ _ t _ hg,⟨rfl,rfl,rfl,by simp [World.setRow],fun k _ hne=>setRow_other w g k _ hne⟩⟩
theorem zF {w:World} {ops:Array Oper} {o:Oper} {a:Act} {K:Act→World→Prop} {Q:Exit→Act→World→Prop} {E:Prop} (hgd:o.guard=none) (d s:Operand)
  (ho:o.op = .call { callee := .builtin .copy,args := #[d,s],argTypes := #[24, 24] }) (g off m c n cs:Nat) (sa:Option Addr) (cur:Array Value) (xs:List Int) (t:TypeId)
  (hd:a.eval d = .slice (some ⟨g,off,none⟩) m c) (hs:a.eval s = .slice sa n cs) (hg:w.heap[g]? = some (.cells cur t (0,0))) (hsrc:Src w sa n xs) (hnm:n≤m) (hfit:off+n≤cur.size)
  (h:∀ w',w'.heap[g]? = some (.cells (cur.toList.take off ++ xs.map (Value.int .u8) ++ cur.toList.drop (off+n)).toArray t (0,0))→Kept (fun x=>x=g) w w'→K (a.put o.dst (.int .i64 (n:Int))) w') :
  if Region.wanted o (yielded ops a.tmps)=true then Oper.wp Tryd.prog o a w K Q else E:=by
 rw [if_pos (by simp [Region.wanted,hgd])]
 obtain ⟨w',hrun,h1,h2⟩:=RJ w o.type g off m c n cs sa cur xs t hg hsrc hnm hfit
 unfold Oper.wp execOp
 simp only [ho,resolve,invoke,builtin,Sem.run_bind,Sem.run_pure,Result.andThen_ok,List.map_toArray,List.map_cons,List.map_nil,hd,hs,hrun]
 exact h w' h1 h2
end Go.Proofs.YthdgbgleklkaiaaDoor
namespace Go.Proofs.YthdgbgleklkaiaaDoor
open Go.RowKit
theorem abK (p q:Nat) (xs:List Int) (bad:Bool) (w:World) (h:dQ w p q xs bad) :
    Calls Tryd.prog 22 #[.pointer (some ⟨p,0,none⟩)] w fun e w'=>e = .returned (.bool (!bad && decide (xs.length=0)))∧w=w':=by
  obtain ⟨⟨sa,c,h1, -, -, -, -⟩, -, -⟩:=h
  have c0:w.cell? ⟨p,0,none⟩=some (.slice sa xs.length c):=aF h1 0
  have c1:w.cell? ⟨p,1,none⟩=some (.bool bad):=aF h1 1
  clear h1
  generalize xs.length=n at c0 ⊢
  cases bad with
  | true =>
    go_enter Tryd.func22, Tryd.ntmps22
    go_wp2_with fail
    all_goals (try simp only [Exit.then])
    go_ret
    exact ⟨rfl,rfl⟩
  | false =>
    by_cases hn:n=0
    · subst hn
      go_enter Tryd.func22, Tryd.ntmps22
      go_wp2_with fail
      all_goals (try simp only [Exit.then])
      go_ret
      exact ⟨rfl,rfl⟩
    · have hz:((n:Int) == 0)=false:=by rw [beq_eq_false_iff_ne];omega
      rw [decide_eq_false hn]
      go_enter Tryd.func22, Tryd.ntmps22
      go_wp2_with fail
      all_goals (try simp only [Exit.then])
      go_ret
      exact ⟨rfl,rfl⟩
end Go.Proofs.YthdgbgleklkaiaaDoor
namespace Go.Proofs.YthdgbgleklkaiaaDoor.Ce
open Go.RowKit Lm Fp Cu Sl Sc
structure OO (w u:World) (g:Nat) (C:Array Value) (t:TypeId) (zs:List Int) (bad:Bool) (p q:Nat):Prop where
  i:u.heap[g]? = some (.cells C t (0,0))
  c:dQ u p q zs bad
  p1:g≠p
  p2:w.heap.size≤p
  b:Below w.heap.size w u
theorem OO.turn {w u u':World} {g:Nat} {C:Array Value} {t:TypeId} {zs zs':List Int} {bad bad':Bool} {p q:Nat} (h:OO w u g C t zs bad p q) (k:Kept (· = p) u u') (c:dQ u' p q zs' bad'):OO w u' g C t zs' bad' p q :=
  ⟨k.blk h.i h.p1,c,h.p1,h.p2,h.b.trans ⟨k.os,k.tape,k.output,k.size,fun i hi=>k.block i (Nat.lt_of_lt_of_le hi h.b.size) (by have:=h.p2;omega)⟩⟩
theorem OO.fresh {w u u':World} {g:Nat} {C:Array Value} {t:TypeId} {zs:List Int} {bad:Bool} {p q:Nat} (h:OO w u g C t zs bad p q) (k:Below u.heap.size u u'):OO w u' g C t zs bad p q :=
  ⟨Below.blk k h.i (aO h.i),h.c.below k,h.p1,h.p2,h.b.trans (k.mono h.b.size)⟩
theorem R5 {xs:List Int} (h:bytes xs) (bad:Bool) (n:Int):bytes (jy xs bad n)∧bytes (oO xs bad n):=by
  constructor
  · unfold jy
    split
    · exact fun x hx=>h x (adB hx)
    · exact fun x hx=>absurd hx (by simp)
  · unfold oO
    split
    · exact fun x hx=>h x (List.mem_of_mem_drop hx)
    · split
      · exact h
      · exact fun x hx=>absurd hx (by simp)
theorem raw_len (xs:List Int) (bad:Bool) (n:Int):(oO xs bad n).length≤xs.length:=by
  unfold oO
  split
  · simp
  · split
    · exact acP _
    · simp
end Go.Proofs.YthdgbgleklkaiaaDoor.Ce
namespace Go.Proofs.YthdgbgleklkaiaaDoor
open Go.RowKit
section
end
section
variable {P:Program} {Q:Exit→Act→World→Prop}
theorem xQ {id:Nat} {a:Act} {w:World} {l:List Oper} (J:Fill→World→Prop) (hB:(DI l a.tmps.size && Js l)=true)
  (h0:J (fun _=>none) w) (hs:dM P Q l J a l 0)
  (hend:∀ f u,(∀ i,i < l.length→(f i).isSome=true)→J f u→Q .normal (laid l 0 f a) u):(Code.region id l.toArray false).wp P Q a w:=by
 refine wp_region_lit ?_
 simp only [DI,Bool.and_eq_true,adC] at hB
 obtain ⟨⟨hg,hd⟩,hbk⟩:=hB
 have hback:∀ i o,l[i]? = some o→∀ e∈o.after,Region.binds .any e=true→e.on < i:=by
  intro i o ho e he hb
  have hlt:i < l.length:=(List.getElem?_eq_some_iff.1 ho).1
  have h1:=List.all_eq_true.1 hbk i (List.mem_range.2 hlt)
  rw [ho] at h1
  have h2:=Array.all_eq_true_iff_forall_mem.1 h1 e he
  simpa [hb] using h2
 have main:∀ (r:List Oper) (k:Nat) (f:Fill) (u:World),l.drop k=r→(∀ i,(f i).isSome=decide (i < k))→Closed l f→J f u→wpList P l.toArray Q r (laid l 0 f a) u:=by
  intro r
  induction r with
  | nil =>
   intro k f u hr hf hcl hJ
   have hk:l.length≤k:=by simpa using hr
   exact hend f u (fun i hi=>by rw [hf i];exact decide_eq_true (by omega)) hJ
  | cons o r ih =>
   intro k f u hr hf hcl hJ
   have ho:l[k]? = some o:=by
    have h1:(l.drop k)[0]? = some o:=by rw [hr];rfl
    rwa [List.getElem?_drop,Nat.add_zero] at h1
   have hr':l.drop (k+1)=r:=by
    have h1:(l.drop k).drop 1=r:=by rw [hr];rfl
    rwa [List.drop_drop] at h1
   have hfk:f k=none:=by
    cases e:f k with
    | none=>rfl
    | some v =>
     have h1:=hf k
     rw [e] at h1
     simp at h1
   have hst:=(by simpa using hs.at k o ho:nA P Q l J a k o)
   have IQ:uS l f a (laid l 0 f a):=by
    refine ⟨fun j oj s v hoj hsj hv=>?_,fun s hs=>?_⟩
    ·refine uD l 0 f a j oj s v hd hoj hsj ?_ (by simpa using hv)
     have:=hg oj (adD hoj)
     rw [hsj] at this
     exact of_decide_eq_true this
    ·refine pQ l 0 f a s (fun o' ho' e=>?_)
     have:=List.all_eq_true.1 hs o' ho'
     simp [e] at this
   have hup:∀ j,dB l k j=true→(f j).isSome=true:=by
    intro j hw
    unfold dB at hw
    rw [ho] at hw
    obtain ⟨e,he,hb⟩:=Array.any_eq_true'.1 hw
    simp only [Bool.and_eq_true,beq_iff_eq] at hb
    have h2:=hback k o ho e he hb.1
    rw [← hb.2,hf]
    exact decide_eq_true h2
   have H:=hst f (laid l 0 f a) u (wpList P l.toArray Q r) hJ hfk hcl hup IQ (fun v u' hJ'=>by
    rw [uz l 0 f a k o v hd ho (by simpa using hfk),Nat.zero_add]
    refine ih (k+1) (f.upd k v) u' hr' (fun i=>?_) (fun j oj hoj hjs e he hb=>?_) hJ'
    ·by_cases e:i=k
     ·subst e
      simp [Fill.upd]
     ·simp only [Fill.upd]
      rw [if_neg e,hf i]
      by_cases h:i < k
      ·rw [decide_eq_true h,decide_eq_true (by omega)]
      ·rw [decide_eq_false h,decide_eq_false (by omega)]
    ·by_cases e2:e.on=k
     ·simp [Fill.upd,e2]
     ·have h3:(f.upd k v e.on)=f e.on:=by simp [Fill.upd,e2]
      rw [h3]
      by_cases e3:j=k
      ·subst e3
       rw [ho] at hoj
       cases hoj
       have h2:=hback j o ho e he hb
       rw [hf]
       exact decide_eq_true h2
      ·have h4:f.upd k v j=f j:=by simp [Fill.upd,e3]
       rw [h4] at hjs
       exact hcl j oj hoj hjs e he hb)
   unfold wpList
   split
   ·rename_i hw
    rw [if_pos hw] at H
    exact .inl H
   ·rename_i hw
    rw [if_neg hw] at H
    exact H
 have h:=main l 0 (fun _=>none) w rfl (fun i=>by simp) (fun i o _ h=>by cases h) h0
 have e0:laid l 0 (fun _=>none) a=a:=by
  have:∀ (l:List Oper) (k:Nat),laid l k (fun _=>none) a=a:=by
   intro l
   induction l with
   | nil=>intro k;rfl
   | cons o l ih=>intro k;simp only [laid];exact ih (k+1)
  exact this l 0
 rw [e0] at h
 exact h
end
section
variable {P:Program} {Q:Exit→Act→World→Prop} {T:Nat→Prop} {w:World} {l:List Oper} {old:List (Nat×OP)} {sy:List Sy} {pt:List Put} {a:Act}
theorem o9 {id:Nat} {u0:World} (hB:(DI l a.tmps.size && Js l && endB l sy pt)=true) (hwf:uZ l sy=true)
  (h0:Holds T w u0 fun κ=>old[κ]?) (hs:uZ l sy=true→dM P Q l (fun f u=>SJ T w old sy pt f u) a l 0)
  (hend:∀ (g:Nat→Nat) (x:Nat→Value) (u:World),(∀ (k:Nat) (s:Sy) (S:Value→Prop),sy[k]? = some s→s.cl = .soft S→S (x k))→Holds T w u (DZ old sy pt g)→Q .normal (lay g x l sy 0 a) u):(Code.region id l.toArray false).wp P Q a u0:=by
 rw [Bool.and_eq_true] at hB
 simp only [endB,Bool.and_eq_true,beq_iff_eq,adC,decide_eq_true_eq] at hB
 obtain ⟨hB1,⟨hlen,Lg⟩,hpt⟩:=hB
 refine xQ (fun f u=>SJ T w old sy pt f u) (by rw [hB1.1,hB1.2];rfl) ⟨fun i v h=>by simp at h,?_,fun i v s S h e=>by simp at e⟩ (hs hwf) fun f u hall hJ=>?_
 ·have e:dV old (sy.map Sy.sp) pt (fun _=>none)=fun κ=>old[κ]? := by
   have hn:∀ κ p,gF pt (fun _=>none) κ p=p:=by
    intro κ
    clear hpt hs hend
    induction pt with
    | nil=>intro p;rfl
    | cons e r ih =>
     intro p
     show gF r (fun _=>none) κ (if e.2.1=κ∧(none:Option Value).isSome=true then e.2.2 else p)=p
     rw [if_neg (by simp)]
     exact ih p
   funext κ
   unfold dV jr
   by_cases hlt:κ < old.length
   ·rw [if_pos hlt]
    simp only [hn]
    cases old[κ]? <;> rfl
   ·rw [if_neg hlt,List.getElem?_eq_none (by omega:old.length≤κ)]
    split <;> simp_all
  rw [e]
  exact h0
 ·have hcl:∀ k s,sy[k]? = some s→∃ v,f k=some v∧s.cl.ok f v:=by
   intro k s hk
   obtain ⟨v,hv⟩:=sE (hall k (by rw [← hlen];exact (List.getElem?_eq_some_iff.1 hk).1))
   obtain ⟨s',hs',hok⟩:=hJ.val k v hv
   rw [hk] at hs'
   cases hs'
   exact ⟨v,hv,hok⟩
  rw [KU (g:=fun j=>eU (f j)) (x:=fun j=>(f j).getD undef) l sy 0 a hlen fun i s hi=>?_]
  ·refine hend _ _ _ (fun k s S hk hc=>?_) ?_
   ·obtain ⟨v,hv,hok⟩:=hcl k s hk
    rw [hc] at hok
    simp only [hv,Option.getD_some]
    exact hok
   ·have e:dV old (sy.map Sy.sp) pt f=DZ old sy pt (fun j=>eU (f j)):=by
     have hp:∀ κ p,gF pt f κ p=vO pt κ p:=by
      intro κ
      unfold gF vO
      clear hJ hs hend
      induction pt with
      | nil=>intro p;rfl
      | cons e r ih =>
       intro p
       simp only [List.foldl_cons]
       have:=hall e.1 (hpt e (List.mem_cons_self ..))
       have e1:∀ p,(if e.2.1=κ∧(f e.1).isSome=true then e.2.2 else p)=if e.2.1=κ then e.2.2 else p:=by
        intro p
        by_cases h1:e.2.1=κ
        ·rw [if_pos ⟨h1,this⟩,if_pos h1]
        ·rw [if_neg (fun h=>h1 h.1),if_neg h1]
       rw [e1]
       exact ih (fun x hx=>hpt x (List.mem_cons_of_mem _ hx)) _
     funext κ
     unfold dV jr DZ
     by_cases hlt:κ < old.length
     ·rw [if_pos hlt,if_pos hlt]
      simp only [hp]
     ·rw [if_neg hlt,if_neg hlt,List.getElem?_map]
      cases hk:sy[κ - old.length]? with
      | none=>rfl
      | some s =>
       obtain ⟨v,hv,hok⟩:=hcl _ _ hk
       simp only [acI,hv,Option.bind_some,Sy.sp]
       cases ho:s.obj with
       | none=>rfl
       | some p =>
        have h1:=Lg s (adD hk)
        rw [ho] at h1
        simp only [Option.isNone_some,Bool.false_or] at h1
        cases hx:s.cl with
        | v y=>simp [hx,CL.pU] at h1
        | soft S=>simp [hx,CL.pU] at h1
        | w S h=>simp [hx,CL.pU] at h1
        | new =>
         rw [hx] at hok
         obtain ⟨g,rfl⟩:=hok
         simp only [pK,acI,eU,hp]
        | mk n =>
         rw [hx] at hok
         obtain ⟨g,rfl⟩:=hok
         simp only [pK,acI,eU,hp]
    rw [← e]
    exact hJ.mem
  ·rw [Nat.zero_add]
   obtain ⟨v,hv,hok⟩:=hcl i s hi
   rw [hv]
   unfold Sy.at
   cases hx:s.cl with
   | v y=>rw [hx] at hok;simp only;rw [← Qs];exact congrArg some hok
   | soft S=>simp [hv]
   | w S h=>simp [hv]
   | new=>rw [hx] at hok;obtain ⟨g,rfl⟩:=hok;simp [hv,eU]
   | mk n=>rw [hx] at hok;obtain ⟨g,rfl⟩:=hok;simp [hv,eU]
end
end Go.Proofs.YthdgbgleklkaiaaDoor
namespace Go.Proofs.YthdgbgleklkaiaaDoor.Po
open Go.RowKit Lm
theorem OT (w:World):(zeroValue 122).run Tryd.prog w = .ok (.agg (arr .u8 (acE 16 0))) w:=by kernel_rfl
theorem yw (r:Nat) (m:List Nat) (q:Nat):acc r m q < 2 ^ 130 - 5:=by
 cases q with
 | zero=>show 0 < 2 ^ 130 - 5;decide
 | succ q=>exact acJ _ (by decide)
end Go.Proofs.YthdgbgleklkaiaaDoor.Po
namespace Go.Proofs.YthdgbgleklkaiaaDoor.Ae
open Go.RowKit Lm Po Ch
def zr (n:Nat):Nat:=(16 - n % 16) % 16
def Fe (n:Nat):List Int:=aW (bD 256 8 n)
def msg (beside c:List Int):List Int:=beside ++ (acE (zr beside.length) 0 ++ (c ++ (acE (zr c.length) 0 ++ (Fe beside.length ++ Fe c.length))))
def toN (xs:List Int):List Nat:=xs.map Int.toNat
def tag (key aM c beside:List Int):List Int:=aW (Kh (toN ((block key 0 aM).take 32)) (toN (msg beside c)))
def lV (key aM plain beside:List Int):List Int:=turn key 1 aM plain ++ tag key aM (turn key 1 aM plain) beside
theorem toN_nar {xs:List Int} (h:bytes xs):aW (toN xs)=xs:=KH xs (fun x hx=>(h x hx).1)
theorem toN_lt {xs:List Int} (h:bytes xs):∀ x∈toN xs,x < 256:=by
 intro x hx
 obtain ⟨y,hy,rfl⟩:=List.mem_map.1 hx
 have:=h y hy
 omega
theorem toN_len (xs:List Int):(toN xs).length=xs.length:=by simp [toN]
theorem yw (key aM c beside:List Int):(tag key aM c beside).length=16:=by rw [tag,aJ,Kh,aK]
theorem D9 {xs:List Nat} (h:∀ x∈xs,x < 256):bytes (aW xs):=by
 intro x hx
 obtain ⟨y,hy,rfl⟩:=List.mem_map.1 hx
 have:=h y hy
 show 0≤(y:Int)∧(y:Int)≤255
 omega
theorem TP (key aM c beside:List Int):bytes (tag key aM c beside):=D9 (ig 256 (by decide) _ _)
theorem Ea (n:Nat):bytes (Fe n):=D9 (ig 256 (by decide) _ _)
theorem nV (n:Nat):(Fe n).length=8:=by rw [Fe,aJ,aK]
theorem qB (n:Nat):bytes (acE n 0):=by
 intro x hx
 rw [List.mem_replicate] at hx
 omega
theorem bytes_append {xs ys:List Int} (h:bytes xs) (k:bytes ys):bytes (xs ++ ys):=by
 intro x hx
 rcases List.mem_append.1 hx with hx|hx
 ·exact h x hx
 ·exact k x hx
theorem oh {xs:List Int} (h:bytes xs) (n:Nat):bytes (xs.take n):=fun x hx=>h x (adB hx)
theorem Jk (key:List Int) (c:Int) (aM:List Int):bytes (block key c aM):=by
 intro x hx
 obtain ⟨i,_,rfl⟩:=List.mem_map.1 hx
 omega
theorem TT {beside c:List Int} (h:bytes beside) (k:bytes c):bytes (msg beside c) :=
 bytes_append h (bytes_append (qB _) (bytes_append k (bytes_append (qB _) (bytes_append (Ea _) (Ea _)))))
theorem msg_len (beside c:List Int):(msg beside c).length≤beside.length+c.length+46:=by
 simp only [msg,acG,acQ,nV]
 have h1:zr beside.length < 16:=acJ _ (by decide)
 have h2:zr c.length < 16:=acJ _ (by decide)
 omega
theorem za (x y:Int):0≤bits .xor .u8 x y∧bits .xor .u8 x y≤255:=by
 unfold bits
 simp only
 show 0≤IntKind.u8.wrap _∧IntKind.u8.wrap _≤255
 rw [IntKind.wrap_u8]
 omega
theorem A9 (key:List Int) (c:Int) (aM b:List Int):bytes (turn key c aM b):=by
 intro x hx
 obtain ⟨i,h,rfl⟩:=List.mem_mapIdx.1 hx
 exact za _ _
theorem Hy (key aM plain beside:List Int):(lV key aM plain beside).length=plain.length+16:=by rw [lV,acG,zl,yw]
theorem su (key aM plain beside:List Int):bytes (lV key aM plain beside):=bytes_append (A9 _ _ _ _) (TP _ _ _ _)
end Go.Proofs.YthdgbgleklkaiaaDoor.Ae
namespace Go.Proofs.YthdgbgleklkaiaaDoor.Ae
open Go.RowKit Lm Po Ch
structure acB (B:Nat) (w wr:World) (v:Value) (xs:List Int):Prop where
 own:aU wr B v xs
 below:Below B w wr
theorem acB.app {B:Nat} {w wr w':World} {v v':Value} {xs ys:List Int} (h:acB B w wr v xs) (hB:B≤wr.heap.size) (o:Obj) (h1:aU w' B v' (xs ++ ys)) (hg:(wr.alloc o).grownBy w' v.ownBlock):acB B w w' v' (xs ++ ys) :=
 ⟨h1,aQ (h.own.alloc o) hg (h.below.alloc hB o) (acK hB (by simp))⟩
theorem zN (k:Nat):acE (k+1) (0:Int)=acE k 0 ++ [0]:=List.replicate_succ'
theorem AB (B:Nat) (v:Value) (xs:List Int) (w:World) (ho:aU w B v xs) (hB:B≤w.heap.size) (hn:xs.length≤2199023255552) :
  Calls Tryd.prog 90 #[v] w fun e w'=>∃ v',e = .returned v'∧aU w' B v' (xs ++ acE (zr xs.length) 0)∧Below B w w':=by
 obtain ⟨s0,c0,hv0, -⟩:=ho.form
 subst hv0
 obtain ⟨n,hnl⟩:∃ n,n=xs.length:=⟨_,rfl⟩
 rw [← hnl] at hn ⊢
 obtain ⟨Z,hZ⟩:∃ Z,Z=zr n:=⟨_,rfl⟩
 rw [← hZ]
 have hz16:Z < 16:=by rw [hZ];exact acJ _ (by decide)
 have hmod0:∀ k,k < Z→(n+k) % 16≠0:=by rw [hZ];unfold zr;omega
 have hmod1:(n+Z) % 16=0:=by rw [hZ];unfold zr;omega
 have HO:=acD ho
 have yt:=acD hnl
 have HM0:=acD hmod0
 have Cz:=acD hmod1
 clear ho hZ hmod0 hmod1
 clear hnl
 go_enter Tryd.func90, Tryd.ntmps90
 go_wp2_with fail
 go_loopg [0] Z (fun g m wr=>∃ (k l:Nat) (sv:Option Addr) (cv:Nat),g+k=Z∧l=n+k∧m = .slice sv l cv∧acB B w wr (.slice sv l cv) (xs ++ acE k 0))
 case atStart=>exact ⟨0,n,s0,c0,by omega,rfl,rfl,⟨by rw [List.replicate_zero,acZ,yt.out];exact HO.out,Below.refl _ w⟩⟩
 case round =>
  obtain ⟨k,l,sv,cv,hk,hl,rfl,hp⟩:=hrel
  obtain ⟨wo,rfl⟩:∃ wo:World,wo=wr:=⟨_,rfl⟩
  have hl1:l≤140737488355000:=by omega
  have HL:=acD hl
  have hBw:B≤wo.heap.size:=acK hB hp.below.size
  by_cases hlt:k < Z
  ·have t1:(((l:Int) % 16) != 0)=true:=by have:=HM0.out k hlt;simp;omega
   have HP:=acD hp
   clear hp hl
   go_wp2_with ((with_reducible refine aS 9 ?_);refine aR rfl _ _ rfl B (.slice sv l cv) (xs ++ acE k 0) rfl (HP.out.own.alloc _) (some ⟨wo.heap.size,0,none⟩) 1 _ [0] rfl (jK _ _) ?_ (acK hBw (by simp)) ?_;(rw [acG,← yt.out,acQ];omega);intro v5 w5 hown5 gG mV vK;have qQ:=HP.out.app hBw _ hown5 gG;clear hown5 gG mV vK;rw [List.append_assoc,← zN] at qQ;obtain ⟨s5,c5,hv5, -⟩:=qQ.own.form;rw [acG,← yt.out,acQ,show n+(k+1)=l+1 by have:=HL.out;omega] at hv5;subst hv5;have Uk:=acD qQ;clear qQ)
   go_roundg (gk - 1)
   case measure=>omega
   case rel=>exact ⟨k+1,l+1,s5,c5,by omega,by have:=HL.out;omega,rfl,Uk.out⟩
  ·have ek:k=Z:=by omega
   have t1:(((l:Int) % 16) != 0)=false:=by have:=Cz.out;simp;omega
   rw [ek] at hp
   have HP:=acD hp
   clear hp hl ek
   go_wp2_with fail
   go_ret
   exact ⟨_,rfl,HP.out.own,HP.out.below⟩
theorem Ac (n:Nat) (hn:n≤2199023255552) (w:World) :
  Calls Tryd.prog 91 #[.int .i64 (n:Int)] w fun e w'=>∃ v,e = .returned v∧aU w' w.heap.size v (Fe n)∧Below w.heap.size w w':=by
 obtain ⟨tk,htk⟩:∃ tk:Nat→List Int,tk=fun i=>(Fe n).take i:=⟨_,rfl⟩
 have ht0:tk 0=[]:=by rw [htk];rfl
 have htl:∀ i,i≤8→(tk i).length=i:=by intro i hi;rw [htk];show ((Fe n).take i).length=i;rw [List.length_take,nV];omega
 have hts:∀ i,i < 8→tk i ++ [((n / 256 ^ i % 256:Nat):Int)]=tk (i+1):=by
  intro i hi
  rw [htk]
  show (Fe n).take i ++ _=(Fe n).take (i+1)
  rw [gD _ i 0 (by rw [nV];exact hi),Fe,bG,dz _ _ _ _ hi]
 have hte:tk 8=Fe n:=by rw [htk];exact acO (by rw [nV];exact acP _)
 have hby:∀ i,bits .and .i64 ((n:Int) / 2 ^ (8 * i)) 255 % 256=((n / 256 ^ i % 256:Nat):Int):=by
  intro i
  have e1:(n:Int) / 2 ^ (8 * i)=((n / 256 ^ i:Nat):Int):=by
   rw [show (256:Nat) ^ i=2 ^ (8 * i) by rw [Nat.pow_mul],Int.natCast_ediv,Int.natCast_pow]
   rfl
  have hlt:n / 256 ^ i < 9223372036854775808:=Nat.lt_of_le_of_lt (Nat.div_le_self _ _) (by omega)
  have e2:n / 256 ^ i &&& 255=n / 256 ^ i % 256:=Nat.and_two_pow_sub_one_eq_mod _ 8
  have h1:(acL 64 ((n / 256 ^ i:Nat):Int)).toNat=n / 256 ^ i:=by rw [BitVec.ofInt_natCast,BitVec.toNat_ofNat];exact Nat.mod_eq_of_lt (by omega)
  have h2:(acL 64 (255:Int)).toNat=255:=by decide
  have e3:bits .and .i64 ((n / 256 ^ i:Nat):Int) 255=((n / 256 ^ i % 256:Nat):Int):=by
   show IntKind.i64.wrap ((acL 64 ((n / 256 ^ i:Nat):Int) &&& acL 64 (255:Int)).toNat:Int)=_
   rw [BitVec.toNat_and,h1,h2,e2,IntKind.wrap_i64]
   omega
  rw [e1,e3]
  omega
 have T0:=acD ht0
 have TL:=acD htl
 have TS:=acD hts
 have TE:=acD hte
 have BY:=acD hby
 clear htk ht0 htl hts hte hby
 go_enter Tryd.func91, Tryd.ntmps91
 go_wp2_with fail
 go_loopg [3,4] 8 (fun g m iv wr=>∃ (i:Nat) (sv:Option Addr) (cv:Nat),g+i=8∧iv = .int .i64 i∧m = .slice sv i cv∧acB w.heap.size w wr (.slice sv i cv) (tk i))
 case atStart=>exact ⟨0,none,0,rfl,rfl,rfl,⟨by rw [T0.out];exact aU.nil _ _,Below.refl _ w⟩⟩
 case round =>
  obtain ⟨i,sv,cv,hi,rfl,rfl,hp⟩:=hrel
  obtain ⟨wo,rfl⟩:∃ wo:World,wo=wr:=⟨_,rfl⟩
  have hBw:w.heap.size≤wo.heap.size:=hp.below.size
  have HP:=acD hp
  clear hp
  by_cases hlt:i < 8
  ·have e2:(8 * (i:Int)).toNat=8 * i:=by omega
   have e3:0≤8 * (i:Int):=by omega
   have e4:8 * (i:Int) < 64:=by omega
   go_wp2_with ((with_reducible refine aS 18 ?_);rw [BY.out];refine aR rfl _ _ rfl w.heap.size (.slice sv i cv) (tk i) rfl (HP.out.own.alloc _) (some ⟨wo.heap.size,0,none⟩) 1 _ [((n / 256 ^ i % 256:Nat):Int)] rfl (jK _ _) ?_ (acK hBw (by simp)) ?_;(rw [TL.out i (by omega)];omega);intro v5 w5 hown5 gG mV vK;have qQ:=HP.out.app hBw _ hown5 gG;clear hown5 gG mV vK;rw [TS.out i hlt] at qQ;obtain ⟨s5,c5,hv5, -⟩:=qQ.own.form;rw [TL.out (i+1) (by omega)] at hv5;subst hv5;have Uk:=acD qQ;clear qQ)
   go_roundg (gk - 1)
   case measure=>omega
   case rel=>exact ⟨i+1,s5,c5,by omega,by go_num,rfl,Uk.out⟩
  ·have ei:i=8:=by omega
   have hp2:aU wo w.heap.size (.slice sv i cv) (Fe n):=by
    have:=HP.out.own
    rw [show tk i=Fe n by rw [ei];exact TE.out] at this
    exact this
   have yj:=acD hp2
   clear ei hp2
   go_wp2_with fail
   go_ret
   exact ⟨_,rfl,yj.out,HP.out.below⟩
end Go.Proofs.YthdgbgleklkaiaaDoor.Ae
