/- cert.Stop: cert.Sign: More of a region told in symbols: A manifest's cells; A slice literal's conversion marks its block: manifest.Body of a manifest that may be. The document's sm. Condition: as each theorem says. -/
import Derived.Lib.SlBytesConst
import Derived.Test.YthdgbgleklkaiaaDoorQa07
import Derived.Test.YthdgbgleklkaiaaDoorQa09
import Derived.Test.YthdgbgleklkaiaaDoorQa10
import Derived.Test.YthdgbgleklkaiaaDoorQa20
import Derived.Test.YthdgbgleklkaiaaDoorQa21
set_option linter.unusedSimpArgs false
set_option linter.unusedVariables false
set_option maxRecDepth 100000
set_option maxHeartbeats 16000000
namespace Go.Proofs.YthdgbgleklkaiaaDoor.Ce
open Go.RowKit Lm Fp Cu Sl Sc
theorem Oz {k:IntKind} (l:List Int):(arr k l).all (·.oneCell')=true:=av _ _
end Go.Proofs.YthdgbgleklkaiaaDoor.Ce
namespace Go.Proofs.YthdgbgleklkaiaaDoor.Ce
open Go.RowKit Lm Fp Cu Sl Sc
theorem vD (id:Int) (ks gs:List Int):(dh id ks gs).all (·.oneCell')=true:=by
 rw [dh,Array.all_append,Array.all_append,Oz,Oz]
 simp [Value.oneCell']
def zZ:Array Value:=dh 0 (List.replicate 32 0) (List.replicate 64 0)
def Zp (root key:Nat) (id:Int):Value:=if xu id=true then (if (iQ key).isSome=true then .tuple #[.agg (dh id (n32 key) (ko root (nY id key))), .int .i64 0] else .tuple #[.agg zZ, .int .i64 21]) else .tuple #[.agg zZ, .int .i64 1]
end Go.Proofs.YthdgbgleklkaiaaDoor.Ce
namespace Go.Proofs.YthdgbgleklkaiaaDoor
open Go.RowKit
section
variable {P:Program} {Q:Exit→Act→World→Prop} {T:Nat→Prop} {w:World} {l:List Oper} {old:List (Nat×OP)} {sy:List Sy} {pt:List Put} {a:Act} {r:List Oper} {i:Nat} {o:Oper}
theorem Uy {u:World} {g:Nat} {cs:Array Value} {t:TypeId} {fr:Nat×Nat} (hb:u.heap[g]? = some (.cells cs t fr)) (off:Nat) (ds:List Value) (h:∀ j v,ds[j]? = some v→cs[off+j]? = some v):u.rangeAt g off ds:=fun j v hj=>by
 rw [aG hb]
 exact h j v hj
theorem SyLa (hW:uL l sy=true) (hr:dR P Q l T w old sy pt a r (i+1)) {ty:TypeId} {x:Operand} {ds:Array Value} {d:TypeDesc} (κ off:Nat) (cs:Array Value) (t:TypeId) (hds:∀ j v,ds.toList[j]? = some v→cs[off+j]? = some v) (hu:P.underlying ty=some d) (hd:d.isRow=true) (hi:(P.info? ty).map (·.size)=some ds.size)
  (ho:o.op = .load ty x:=by rfl) (hg:o.guard=none:=by rfl) (hs:sy[i]? = some (Yv (.agg ds)):=by rfl) (hq:gH sy pt i=true:=by kernel_rfl) (hrd:iw l i x=true:=by kernel_rfl) (hl:tK l old sy i κ=true:=by kernel_rfl)
  (hx:∀ f,sev l sy a f x = .pointer (some ⟨adr old f κ,off,none⟩):=by intro f;first|rfl|kernel_rfl) (hc:cont l old sy pt i κ=some (Bp cs t):=by kernel_rfl):dR P Q l T w old sy pt a (o :: r) i :=
 .cons (fun f b u K hJ hf hcl hup iW hK=>by
  obtain ⟨⟨ob,I9,hpo⟩, -⟩:=hJ.mem.mem κ _ _ (qy hJ hcl hf hup hc hl)
  have hpo:ob = .cells cs t (0,0):=hpo
  subst hpo
  rw [if_pos (fu hg)]
  refine wp_load_mid ty x ho _ off ((jg hJ hcl hup iW hrd).trans (hx f)) ds.toList d (Uy I9 off _ hds) hu hd (by rw [Array.length_toList];exact hi) ?_
  rw [Array.toArray_toList]
  exact hK _ _ (hJ.upd hW hcl hf hup hs rfl (by rw [kM hf hq];exact hJ.mem) (fun _=>Below.refl _ _) (CL.no rfl))) hr
theorem SyX (hW:uL l sy=true) (hr:dR P Q l T w old sy pt a r (i+1)) {v:Value} (xs:List Operand) (vs:List Value) (h:∀ (ρ:Operand→Value) (u:World),Kept T w u→xs.map ρ=vs→(execOp ρ o).run P u = .ok (.value v) u)
  (he:easy o.op=true:=by rfl) (hrd:o.op.operands.toList.all (iw l i)=true:=by kernel_rfl) (hv:∀ f,xs.map (sev l sy a f)=vs:=by intro f;first|rfl|kernel_rfl) (hg:o.guard=none:=by rfl) (hs:sy[i]? = some (Yv v):=by rfl) (hq:gH sy pt i=true:=by kernel_rfl):dR P Q l T w old sy pt a (o :: r) i :=
 SyV hW hr (fun f u hH _ _ _=>h _ u hH.keep (hv f)) (execOp_congr he) hrd hg hs hq
theorem J7 {u u':World} (h:Kept (fun _=>False) u u'):Below u.heap.size u u':=⟨h.os,h.tape,h.output,h.size,fun i hi=>h.block i hi id⟩
end
end Go.Proofs.YthdgbgleklkaiaaDoor
namespace Go.Proofs.YthdgbgleklkaiaaDoor.Mf
open Go.RowKit Lm Fp Cu Sl Sc Ce
def aZ (v b:Int) (ro:List Int) (wv:Value) (i:Int) (ks gs ss:List Int):Array Value := #[.int .i64 v, .int .i64 b] ++ arr .u8 ro ++ #[wv, .int .i64 i] ++ arr .u8 ks ++ arr .u8 gs ++ arr .u8 ss
section
variable {v b i:Int} {ro ks gs ss:List Int} {wv:Value}
theorem bP:(aZ v b ro wv i ks gs ss).toList = .int .i64 v :: .int .i64 b :: (ro.map (Value.int .u8) ++ wv :: .int .i64 i :: (ks.map (Value.int .u8) ++ (gs.map (Value.int .u8) ++ ss.map (Value.int .u8)))):=by
 simp [aZ,arr]
theorem bL (h1:ro.length=32) (h2:ks.length=32) (h3:gs.length=64) (h4:ss.length=64):(aZ v b ro wv i ks gs ss).size=196:=by
 rw [← Array.length_toList,bP]
 simp [h1,h2,h3,h4]
theorem o9 {A:Array Value} {L:List Value} (h:A.toList=L) (k:Nat):A[k]? = L[k]? := by rw [← h];simp
theorem uY:(aZ v b ro wv i ks gs ss)[0]? = some (.int .i64 v):=by rw [o9 bP];rfl
theorem lW:(aZ v b ro wv i ks gs ss)[1]? = some (.int .i64 b):=by rw [o9 bP];rfl
theorem gI (h1:ro.length=32):(aZ v b ro wv i ks gs ss)[34]? = some wv:=by
 rw [o9 bP]
 simp only [List.getElem?_cons_succ]
 rw [List.getElem?_append_right (by simp [h1])]
 simp [h1]
theorem nH (h1:ro.length=32):(aZ v b ro wv i ks gs ss)[35]? = some (.int .i64 i):=by
 rw [o9 bP]
 simp only [List.getElem?_cons_succ]
 rw [List.getElem?_append_right (by simp [h1])]
 simp [h1]
theorem Ef:((aZ v b ro wv i ks gs ss).toList.drop 2).take ro.length=ro.map (Value.int .u8):=by
 rw [bP]
 simp
theorem manC_ks (h1:ro.length=32):((aZ v b ro wv i ks gs ss).toList.drop 36).take ks.length=ks.map (Value.int .u8):=by
 rw [bP]
 simp only [List.drop_succ_cons,List.drop_append,List.length_map,h1]
 simp [h1,List.drop_of_length_le]
theorem manC_gs (h1:ro.length=32) (h2:ks.length=32):((aZ v b ro wv i ks gs ss).toList.drop 68).take gs.length=gs.map (Value.int .u8):=by
 rw [bP]
 simp only [List.drop_succ_cons,List.drop_append,List.length_map,h1,h2]
 simp [h1,h2,List.drop_of_length_le]
theorem xQ (h1:ro.length=32) (h2:ks.length=32) (h3:gs.length=64):((aZ v b ro wv i ks gs ss).toList.drop 132).take ss.length=ss.map (Value.int .u8):=by
 rw [bP]
 simp only [List.drop_succ_cons,List.drop_append,List.length_map,h1,h2,h3]
 simp [h1,h2,h3,List.drop_of_length_le,List.take_of_length_le]
end
def iJ (v b:Int) (wn:Nat) (i:Int):Bool:=xu v && (decide (1≤b) && decide (b≤32)) && decide (wn=80) && xu i
theorem tJ {ro ks gs ss:List Int} (v b i:Int) (sw:Option Addr) (nw cw:Nat) (w:World) (h1:ro.length=32) :
  Calls Tryd.prog 23 #[.agg (aZ v b ro (.slice sw nw cw) i ks gs ss)] w fun e w'=>e = .returned (.bool (iJ v b nw i))∧Below w.heap.size w w':=by
 have c0:(w.alloc (.cells (aZ v b ro (.slice sw nw cw) i ks gs ss) 30)).cell? ⟨w.heap.size,0,none⟩=some (.int .i64 v):=by rw [aG (aL w _)];exact uY
 have c1:(w.alloc (.cells (aZ v b ro (.slice sw nw cw) i ks gs ss) 30)).cell? ⟨w.heap.size,1,none⟩=some (.int .i64 b):=by rw [aG (aL w _)];exact lW
 have c2:(w.alloc (.cells (aZ v b ro (.slice sw nw cw) i ks gs ss) 30)).cell? ⟨w.heap.size,34,none⟩=some (.slice sw nw cw):=by rw [aG (aL w _)];exact gI h1
 have c3:(w.alloc (.cells (aZ v b ro (.slice sw nw cw) i ks gs ss) 30)).cell? ⟨w.heap.size,35,none⟩=some (.int .i64 i):=by rw [aG (aL w _)];exact nH h1
 have HB:=Lib.hid ((Below.refl _ w).alloc (Nat.le_refl _) (.cells (aZ v b ro (.slice sw nw cw) i ks gs ss) 30))
 clear h1
 generalize aZ v b ro (.slice sw nw cw) i ks gs ss=M at c0 c1 c2 c3 HB ⊢
 go_enter Tryd.func23, Tryd.ntmps23
 go_upto_region 1 with fail
 generalize w.alloc (.cells M 30)=wb at c0 c1 c2 c3 HB ⊢
 go_wp2_with ((with_reducible show Calls _ 40 _ _ _);go_at_call 40; refine (Ce.tJ _ _).mono ?_;rintro e w1 ⟨rfl,rfl⟩)
 all_goals (try simp only [Exit.then])
 all_goals go_ret
 all_goals refine ⟨?_,HB.out⟩
 all_goals congr 2
 all_goals simp only [iJ,xu]
 all_goals clear c0 c1 c2 c3 HB
 all_goals (first|(simp_all;done)|(simp_all;omega)|(simp;omega))
end Go.Proofs.YthdgbgleklkaiaaDoor.Mf
namespace Go.Proofs.YthdgbgleklkaiaaDoor
open Go.RowKit
theorem Pb {w w':World} {v v':Value} {t u:TypeId} (h:(convert t u v).run Tryd.prog w = .ok v' w'):(do pure (Next.value (← convert t u v)):Sem Next).run Tryd.prog w = .ok (.value v') w':=by
 simp only [Sem.run_bind,h,Result.andThen_ok]
 rfl
theorem Ei {P:Program} {Q:Exit→Act→World→Prop} {ops:Array Oper} {o:Oper} {b:Act} {u u':World} {K:Act→World→Prop} {E:Prop} (hgd:o.guard=none) (v:Value) (hrun:(execOp b.eval o).run P u = .ok (.value v) u') (h:K (b.put o.dst v) u') :
  if Region.wanted o (yielded ops b.tmps)=true then Oper.wp P o b u K Q else E:=by
 rw [if_pos (by simp [Region.wanted,hgd])]
 unfold Oper.wp
 rw [hrun]
 exact h
theorem RJ (w:World) (g n c:Nat) (C:Array Value) (hg:w.heap[g]? = some (.cells C 5 (0,0))) :
  ∃ w',(convert 24 24 (.slice (some ⟨g,0,none⟩) n c)).run Tryd.prog w = .ok (.slice (some ⟨g,0,none⟩) n c) w'∧w'.heap[g]? = some (.cells C 5 (C.size,C.size+1))∧Kept (fun x=>x=g) w w':=by
 have hsh:w.shape? g=some (5, C.size):=by
  unfold World.shape?
  rw [hg]
 refine ⟨w.freeze ⟨g,C.size,none⟩ 1,?_,?_,?_⟩
 ·simp [convert,run_underlying Tryd.underlying24, run_underlying Tryd.underlying5, markStringish,hsh]
 ·unfold World.freeze
  rw [if_neg (by decide)]
  simp only [Array.getElem?_modify,if_true,hg,Option.map_some]
  rfl
 ·unfold World.freeze
  rw [if_neg (by decide)]
  refine ⟨rfl,rfl,rfl,by simp,fun k hk hne=>?_⟩
  simp only [Array.getElem?_modify]
  rw [if_neg (fun e=>hne e.symm)]
def zm (a b c d:Int):Array Value := #[.int .u8 a, .int .u8 b, .int .u8 c, .int .u8 d]
theorem conv4 (w:World) (a b c d:Int):(convert 24 24 (.slice (some ⟨w.heap.size,0,none⟩) 4 4)).run Tryd.prog (w.alloc (.cells (zm a b c d) 5)) = .ok (.slice (some ⟨w.heap.size,0,none⟩) 4 4) (w.alloc (.cells (zm a b c d) 5 (4,5))) :=
 Lib.run_convert_bytes_const w 24 5 (zm a b c d) 4 4 Tryd.underlying24 Tryd.underlying5
theorem src4 {u:World} {g:Nat} {a b c d:Int} {fr:Nat×Nat} (h:u.heap[g]? = some (.cells (zm a b c d) 5 fr)):Src u (some ⟨g,0,none⟩) 4 [a,b,c,d]:=nu h rfl rfl
theorem Ue {u:World} {g:Nat} {x:Int} {t:TypeId} {fr:Nat×Nat} (h:u.heap[g]? = some (.cells #[.int .i64 x] t fr)):Ag u (some ⟨g,0,none⟩) 1 [x]:=by
 refine ⟨rfl,fun i hi=>⟨_,rfl,?_⟩⟩
 obtain rfl:i=0:=by omega
 rw [show (⟨g,0,none⟩:Addr).add 0=⟨g,0,none⟩ from rfl,aG h]
 rfl
end Go.Proofs.YthdgbgleklkaiaaDoor
namespace Go.Proofs.YthdgbgleklkaiaaDoor.Mf
open Go.RowKit Lm Fp Cu Sl Sc Ce
def dF (v b:Int) (ro ws:List Int) (i:Int) (ks gs:List Int):List Int:=iy (iy [80,67,77,49] [v,b] ++ ro ++ ws) [i] ++ ks ++ gs
theorem sQ {w:World} {g:Nat} {cs:Array Value} {t:TypeId} {fr:Nat×Nat} (h:w.heap[g]? = some (.cells cs t fr)) (off:Nat) {xs:List Int} (hp:(cs.toList.drop off).take xs.length=xs.map (Value.int .u8)):Src w (some ⟨g,off,none⟩) xs.length xs:=by
 refine ⟨rfl,fun i hi=>⟨_,rfl,?_⟩⟩
 rw [Addr.add_lit,aG h]
 have h2:=congrArg (fun l=>l[i]?) hp
 simp only [List.getElem?_take,hi,if_true,List.getElem?_drop,List.getElem?_map] at h2
 simpa [List.getD,hi] using h2
theorem Ud (w:World) (x y:Int):Ag (w.alloc (.cells #[.int .i64 x, .int .i64 y] 3)) (some ⟨w.heap.size,0,none⟩) 2 [x,y]:=by
 refine ⟨rfl,fun i hi=>⟨_,rfl,?_⟩⟩
 have:i=0∨i=1:=by omega
 rcases this with rfl|rfl
 ·rw [show (⟨w.heap.size,0,none⟩:Addr).add 0=⟨w.heap.size,0,none⟩ from rfl,aG (aL w _)]
  rfl
 ·rw [Addr.add_lit,aG (aL w _)]
  rfl
end Go.Proofs.YthdgbgleklkaiaaDoor.Mf
namespace Go.Proofs.YthdgbgleklkaiaaDoor.Ce
open Go.RowKit Lm Fp Cu Sl Sc
theorem gM (id:Int) (w:World):Calls Tryd.prog 25 #[.int .i64 id] w fun e w'=>e = .returned (.bool (xu id))∧w=w':=by
 go_enter Tryd.func25, Tryd.ntmps25
 go_wp2_with fail
 all_goals (try simp only [Exit.then])
 ·go_ret
  rename_i h
  refine ⟨?_,rfl⟩
  rw [xu,decide_eq_true h,Bool.true_and]
  rfl
 ·go_ret
  rename_i h
  refine ⟨?_,rfl⟩
  rw [xu,decide_eq_false (by omega),Bool.false_and]
  rfl
theorem EJ {ks:List Int} (id:Int) (key:Nat) (w:World) (hk:Mt ks key) (hi : -9223372036854775808≤id∧id≤9223372036854775807):Calls Tryd.prog 47 #[.int .i64 id, .agg (arr .u8 ks)] w fun e w'=>∃ v,e = .returned v∧aV w' w.heap.size v (nY id key)∧Below w.heap.size w w':=by
 have hn:n32 key=ks:=hk.1.symm
 have hpl:(iy [80,67,67,84] [id]).length=12:=by rw [fU];rfl
 rw [nY,hn]
 obtain ⟨T,hT⟩:∃ T,T=iy [80,67,67,84] [id]:=⟨_,rfl⟩
 have hint:∀ (u:World) (g h:Nat),Src u (some ⟨g,0,none⟩) 4 [80,67,67,84]→Ag u (some ⟨h,0,none⟩) 1 [id]→Calls Tryd.prog 26 #[.slice (some ⟨g,0,none⟩) 4 4, .slice (some ⟨h,0,none⟩) 1 1] u fun e w'=>∃ v,e = .returned v∧aV w' u.heap.size v T∧Below u.heap.size u w':=by
  intro u g h h1 h2
  rw [hT]
  exact tu (some ⟨g,0,none⟩) (some ⟨h,0,none⟩) 4 4 1 1 _ _ u h1 h2 (by decide) (by decide) (by intro y hy;simp at hy;subst hy;exact hi)
 rw [← hT] at hpl ⊢
 have HINT:=Lib.hid hint
 have MC:=Lib.hid hpl
 have l9:=Lib.hid hk.len
 have ET:Hid (Src (w.alloc (.cells (arr .u8 ks) 23)) (some ⟨w.heap.size,0,none⟩) 32 ks):=Lib.hid (bO (aL w _) 32 hk.len)
 have F7:Hid (Below w.heap.size w (w.alloc (.cells (arr .u8 ks) 23))):=Lib.hid ((Below.refl _ w).alloc (Nat.le_refl _) _)
 have og:Hid (w.heap.size < (w.alloc (.cells (arr .u8 ks) 23)).heap.size):=Lib.hid (by simp)
 clear hint hpl hk hn hT hi
 go_enter Tryd.func47, Tryd.ntmps47
 go_upto_region 1 with fail
 generalize w.alloc (.cells (arr .u8 ks) 23)=wb at ET F7 og ⊢
 refine oJ (fun f u=>Below wb.heap.size wb u
  ∧ (∀ v,f 0=some v→∃ g,v = .slice (some ⟨g,0,none⟩) 4 4∧(f 4=none→wb.heap.size≤g∧u.heap[g]? = some (.cells (zm 80 67 67 84) 5 (if (f 1).isSome then (4,5) else (0,0))))∧∀ x,f 1=some x→x=v)
  ∧ (∀ v,f 2=some v→v = .int .i64 id)
  ∧ (∀ v,f 3=some v→∃ g,v = .slice (some ⟨g,0,none⟩) 1 1∧(f 4=none→wb.heap.size≤g∧u.heap[g]? = some (.cells #[.int .i64 id] 3 (0,0))))
  ∧ (∀ v,f 4=some v→f 6=none→aV u wb.heap.size v T)
  ∧ (∀ v,f 5=some v→v = .slice (some ⟨w.heap.size,0,none⟩) 32 32)
  ∧ (∀ v,f 6=some v→aV u wb.heap.size v (T ++ ks))
  ∧ (∀ v,f 7=some v→f 6=some v)) (by kernel_rfl) (by kernel_rfl) ?z1 ?s1 ?e1
 case z1=>exact ⟨(Below.refl _ wb).drew,fun _ h=>(by cases h),fun _ h=>(by cases h),fun _ h=>(by cases h),fun _ h=>(by cases h),fun _ h=>(by cases h),fun _ h=>(by cases h),fun _ h=>(by cases h)⟩
 case s1 =>
  refine dK.cons (fun f b u K hJ hf hc hu hs hK=>?_) ?_
  ·obtain ⟨hb,j0,j2,j3,j4,j5,j6,j7⟩:=hJ
   have f1:f 1=none:=hc.down 1 0 (by kernel_rfl) hf
   have f4:f 4=none:=hc.down 4 1 (by kernel_rfl) f1
   have dG:Below u.heap.size u (u.alloc (.cells (zm 80 67 67 84) 5)):=(Below.refl _ u).alloc (Nat.le_refl _) _
   refine Ei rfl (.slice (some ⟨u.heap.size,0,none⟩) 4 4) (u':=u.alloc (.cells (zm 80 67 67 84) 5)) (by first|rfl|kernel_rfl) (hK _ _ ⟨hb.trans (dG.mono hb.size),?_,?_,?_,?_,?_,?_,?_⟩)
   ·intro v h
    simp only [Fill.upd,if_pos,Option.some.injEq] at h
    subst h
    refine ⟨_,rfl,fun _=>⟨hb.size,?_⟩,fun x hx=>?_⟩
    ·rw [show (f.upd 0 (.slice (some ⟨u.heap.size,0,none⟩) 4 4)) 1=none from f1]
     exact aL u _
    ·rw [show (f.upd 0 (.slice (some ⟨u.heap.size,0,none⟩) 4 4)) 1=none from f1] at hx
     cases hx
   ·exact fun v h=>j2 v h
   ·intro v h
    obtain ⟨g,rfl,h2⟩:=j3 v h
    exact ⟨g,rfl,fun k=>⟨(h2 k).1,Below.blk dG (h2 k).2 (aR (h2 k).2)⟩⟩
   ·exact fun v h k=>(j4 v h k).below dG
   ·exact fun v h=>j5 v h
   ·exact fun v h=>(j6 v h).below dG
   ·exact fun v h=>j7 v h
  refine dK.cons (fun f b u K hJ hf hc hu hs hK=>?_) ?_
  ·obtain ⟨hb,j0,j2,j3,j4,j5,j6,j7⟩:=hJ
   have f4:f 4=none:=hc.down 4 1 (by kernel_rfl) hf
   have f6:f 6=none:=hc.down 6 4 (by kernel_rfl) f4
   obtain ⟨v0,h0⟩:=sE (hu 0 (by kernel_rfl))
   obtain ⟨g,rfl,hg, -⟩:=j0 v0 h0
   obtain ⟨hg0,hg1⟩:=hg f4
   rw [hf] at hg1
   have e0:b.eval (.tmp 5) = .slice (some ⟨g,0,none⟩) 4 4:=hs.val 0 5 rfl h0
   obtain ⟨u9,hr9,hg9,nK⟩:=RJ u g 4 4 (zm 80 67 67 84) hg1
   have dG:Below wb.heap.size u u9:=⟨nK.os,nK.tape,nK.output,nK.size,fun k hk=>nK.block k (Nat.lt_of_lt_of_le hk hb.size) (by omega)⟩
   refine Ei rfl (.slice (some ⟨g,0,none⟩) 4 4) (u':=u9) (by simp only [execOp,e0];exact Pb hr9) (hK _ _ ⟨hb.trans dG,?_,?_,?_,?_,?_,?_,?_⟩)
   ·intro v h
    have h:f 0=some v:=h
    rw [h0] at h
    cases h
    refine ⟨g,rfl,fun _=>⟨hg0,hg9⟩,fun x hx=>?_⟩
    simp only [Fill.upd,if_pos,Option.some.injEq] at hx
    exact hx.symm
   ·exact fun v h=>j2 v h
   ·intro v h
    obtain ⟨g3,rfl,h2⟩:=j3 v h
    refine ⟨g3,rfl,fun k=>⟨(h2 f4).1,nK.blk (h2 f4).2 (fun e=>?_)⟩⟩
    have e:g3=g:=e
    subst e
    have:=(h2 f4).2
    rw [hg1] at this
    simp [zm] at this
   ·intro v h k
    rw [show (f.upd 1 (.slice (some ⟨g,0,none⟩) 4 4)) 4=none from f4] at h
    cases h
   ·exact fun v h=>j5 v h
   ·intro v h
    rw [show (f.upd 1 (.slice (some ⟨g,0,none⟩) 4 4)) 6=none from f6] at h
    cases h
   ·exact fun v h=>j7 v h
  refine dK.cons (fun f b u K hJ hf hc hu hs hK=>?_) ?_
  ·obtain ⟨hb,j0,j2,j3,j4,j5,j6,j7⟩:=hJ
   have e0:b.eval (.tmp 0) = .int .i64 id:=hs.old' 0 (by kernel_rfl) rfl
   refine dY rfl (.int .i64 id) (by simp only [execOp,e0] <;> first|rfl|kernel_rfl) (hK _ _ ⟨hb,fun v h=>j0 v h,?_,fun v h=>j3 v h,fun v h=>j4 v h,fun v h=>j5 v h,fun v h=>j6 v h,fun v h=>j7 v h⟩)
   exact fun v h=>(by simp only [Fill.upd,if_pos,Option.some.injEq] at h;exact h.symm)
  refine dK.cons (fun f b u K hJ hf hc hu hs hK=>?_) ?_
  ·obtain ⟨hb,j0,j2,j3,j4,j5,j6,j7⟩:=hJ
   have f4:f 4=none:=hc.down 4 3 (by kernel_rfl) hf
   obtain ⟨v2,h2⟩:=sE (hu 2 (by kernel_rfl))
   obtain rfl:=j2 v2 h2
   have e2:b.eval (.tmp 7) = .int .i64 id:=hs.val 2 7 rfl h2
   have dG:Below u.heap.size u (u.alloc (.cells #[.int .i64 id] 3)):=(Below.refl _ u).alloc (Nat.le_refl _) _
   refine Ei rfl (.slice (some ⟨u.heap.size,0,none⟩) 1 1) (u':=u.alloc (.cells #[.int .i64 id] 3)) (by simp only [execOp,List.map_toArray,List.map_cons,List.map_nil,e2] <;> first|rfl|kernel_rfl) (hK _ _ ⟨hb.trans (dG.mono hb.size),?_,?_,?_,?_,?_,?_,?_⟩)
   ·intro v h
    obtain ⟨g,rfl,h3,h4⟩:=j0 v h
    exact ⟨g,rfl,fun k=>⟨(h3 k).1,Below.blk dG (h3 k).2 (aR (h3 k).2)⟩,h4⟩
   ·exact fun v h=>j2 v h
   ·intro v h
    simp only [Fill.upd,if_pos,Option.some.injEq] at h
    subst h
    exact ⟨_,rfl,fun _=>⟨hb.size,aL u _⟩⟩
   ·exact fun v h k=>(j4 v h k).below dG
   ·exact fun v h=>j5 v h
   ·exact fun v h=>(j6 v h).below dG
   ·exact fun v h=>j7 v h
  refine dK.cons (fun f b u K hJ hf hc hu hs hK=>?_) ?_
  ·obtain ⟨hb,j0,j2,j3,j4,j5,j6,j7⟩:=hJ
   have f6:f 6=none:=hc.down 6 4 (by kernel_rfl) hf
   obtain ⟨v1,h1⟩:=sE (hu 1 (by kernel_rfl))
   obtain ⟨v0,h0⟩:=sE (hc.up 1 0 (by kernel_rfl) (by rw [h1];rfl))
   obtain ⟨g,rfl,hg,hx⟩:=j0 v0 h0
   obtain rfl:=hx v1 h1
   obtain ⟨v3,h3⟩:=sE (hu 3 (by kernel_rfl))
   obtain ⟨g3,rfl,hg3⟩:=j3 v3 h3
   have e1:b.eval (.tmp 6) = .slice (some ⟨g,0,none⟩) 4 4:=hs.val 1 6 rfl h1
   have e3:b.eval (.tmp 8) = .slice (some ⟨g3,0,none⟩) 1 1:=hs.val 3 8 rfl h3
   refine fA rfl 26 [.tmp 6, .tmp 8] _ [.slice (some ⟨g,0,none⟩) 4 4, .slice (some ⟨g3,0,none⟩) 1 1] rfl (by simp only [List.map_cons,List.map_nil,e1,e3] <;> rfl) (fun _ _=>by kernel_rfl) ?_
   refine Calls.mono (HINT.out u g g3 (src4 (hg hf).2) (Ue (hg3 hf).2)) ?_
   rintro e w1 ⟨v,rfl,ho,dG⟩
   refine ⟨v,rfl,hK _ _ ⟨hb.trans (dG.mono hb.size),?_,fun v h=>j2 v h,?_,?_,fun v h=>j5 v h,?_,fun v h=>j7 v h⟩⟩
   ·intro v' h
    obtain ⟨g',e', -, h4⟩:=j0 v' h
    exact ⟨g',e',fun k=>(by simp [Fill.upd] at k),h4⟩
   ·intro v' h
    obtain ⟨g',e', -⟩:=j3 v' h
    exact ⟨g',e',fun k=>(by simp [Fill.upd] at k)⟩
   ·intro v' h _
    simp only [Fill.upd,if_pos,Option.some.injEq] at h
    subst h
    exact ho.mono hb.size
   ·intro v' h
    rw [show (f.upd 4 v) 6=none from f6] at h
    cases h
  refine dK.cons (fun f b u K hJ hf hc hu hs hK=>?_) ?_
  ·obtain ⟨hb,j0,j2,j3,j4,j5,j6,j7⟩:=hJ
   have e0:b.eval (.tmp 3) = .pointer (some ⟨w.heap.size,0,none⟩):=hs.old' 3 (by kernel_rfl) rfl
   refine dY rfl (.slice (some ⟨w.heap.size,0,none⟩) 32 32) (by simp only [execOp,e0,Option.map_none] <;> first|rfl|kernel_rfl|(go_simp;done)) (hK _ _ ⟨hb,fun v h=>j0 v h,fun v h=>j2 v h,fun v h=>j3 v h,fun v h=>j4 v h,?_,fun v h=>j6 v h,fun v h=>j7 v h⟩)
   exact fun v h=>(by simp only [Fill.upd,if_pos,Option.some.injEq] at h;exact h.symm)
  refine dK.cons (fun f b u K hJ hf hc hu hs hK=>?_) ?_
  ·obtain ⟨hb,j0,j2,j3,j4,j5,j6,j7⟩:=hJ
   have f7:f 7=none:=hc.down 7 6 (by kernel_rfl) hf
   obtain ⟨v4,h4⟩:=sE (hu 4 (by kernel_rfl))
   have ho:=j4 v4 h4 hf
   obtain ⟨v5,h5⟩:=sE (hu 5 (by kernel_rfl))
   obtain rfl:=j5 v5 h5
   have e4:b.eval (.tmp 9)=v4:=hs.val 4 9 rfl h4
   have e5:b.eval (.tmp 10) = .slice (some ⟨w.heap.size,0,none⟩) 32 32:=hs.val 5 10 rfl h5
   refine fQ rfl (.tmp 9) (.tmp 10) rfl wb.heap.size v4 T e4 ho (some ⟨w.heap.size,0,none⟩) 32 32 ks e5 (ET.out.below hb) (by rw [MC.out];decide) hb.size ?_
   intro v2 w2 ho2 hg2 hn2 hq2
   have dG:Below wb.heap.size wb w2:=aQ ho hg2 hb hb.size
   refine hK _ _ ⟨dG,?_,fun v h=>j2 v h,?_,?_,fun v h=>j5 v h,?_,?_⟩
   ·intro v' h
    obtain ⟨g',e', -, h4'⟩:=j0 v' h
    exact ⟨g',e',fun k=>(by have k:f 4=none:=k;rw [h4] at k;cases k),h4'⟩
   ·intro v' h
    obtain ⟨g',e', -⟩:=j3 v' h
    exact ⟨g',e',fun k=>(by have k:f 4=none:=k;rw [h4] at k;cases k)⟩
   ·exact fun v' h k=>(by simp [Fill.upd] at k)
   ·intro v' h
    simp only [Fill.upd,if_pos,Option.some.injEq] at h
    subst h
    exact ho2
   ·intro v' h
    rw [show (f.upd 6 v2) 7=none from f7] at h
    cases h
  refine dK.cons (fun f b u K hJ hf hc hu hs hK=>?_) ?_
  ·obtain ⟨hb,j0,j2,j3,j4,j5,j6,j7⟩:=hJ
   obtain ⟨v6,h6⟩:=sE (hu 6 (by kernel_rfl))
   have e6:b.eval (.tmp 11)=v6:=hs.val 6 11 rfl h6
   refine dY rfl v6 (by simp only [execOp,e6] <;> first|rfl|kernel_rfl) (hK _ _ ⟨hb,fun v h=>j0 v h,fun v h=>j2 v h,fun v h=>j3 v h,fun v h k=>j4 v h k,fun v h=>j5 v h,fun v h=>j6 v h,?_⟩)
   intro v' h
   simp only [Fill.upd,if_pos,Option.some.injEq] at h
   subst h
   exact h6
  exact dK.nil
 case e1 =>
  intro f u hall hJ
  obtain ⟨hb,j0,j2,j3,j4,j5,j6,j7⟩:=hJ
  obtain ⟨v0,h0⟩:=sE (hall 0 (by decide))
  obtain ⟨v1,h1⟩:=sE (hall 1 (by decide))
  obtain ⟨v2,h2⟩:=sE (hall 2 (by decide))
  obtain ⟨v3,h3⟩:=sE (hall 3 (by decide))
  obtain ⟨v4,h4⟩:=sE (hall 4 (by decide))
  obtain ⟨v5,h5⟩:=sE (hall 5 (by decide))
  obtain ⟨v6,h6⟩:=sE (hall 6 (by decide))
  obtain ⟨v7,h7⟩:=sE (hall 7 (by decide))
  have e7:=j7 v7 h7
  rw [h6] at e7
  cases e7
  have HO:=Lib.hid (j6 v6 h6)
  have HB:=Lib.hid hb
  simp only [laid,h0,h1,h2,h3,h4,h5,h6,h7,Nat.reduceAdd,Act.put,sA,sZ,sS]
  clear j0 j2 j3 j4 j5 j6 j7 hb h0 h1 h2 h3 h4 h5 h6 h7 hall
  (try simp only [Exit.then])
  go_wp2_with fail
  go_ret
  exact ⟨_,rfl,HO.out.mono (Nat.le_of_lt og.out),F7.out.trans (HB.out.mono (Nat.le_of_lt og.out))⟩
end Go.Proofs.YthdgbgleklkaiaaDoor.Ce
namespace Go.Proofs.YthdgbgleklkaiaaDoor
open Go.RowKit
theorem pI (p q:Nat) (xs:List Int) (bad:Bool) (n:Int) (w:World) (h:dO w p q xs bad) (hl:xs.length≤1099511627776) :
  Calls Tryd.prog 18 #[.pointer (some ⟨p,0,none⟩), .int .i64 n] w fun e w'=>∃ v,e = .returned v∧aV w' w.heap.size v (jl xs bad n)∧dO w' p q (oq xs bad n) (!jL xs bad n)∧Kept (· = p) w w':=by
 cases bad with
 | true =>
  refine (Zk p q xs n w h).mono ?_
  rintro e w' ⟨rfl,rfl⟩
  exact ⟨_,rfl,aV.nil _ _,h,Kept.refl _ _⟩
 | false =>
  by_cases hn:n < 0∨(0≤n∧(xs.length:Int) < n)
  ·have e:jL xs false n=false:=by
    rw [← Bool.not_eq_true,iY]
    omega
   refine (craw_no p q xs n w h hn).mono ?_
   rintro e' w' ⟨rfl,hc,hk, -⟩
   refine ⟨_,rfl,?_,?_,hk⟩
   ·rw [jl,e];exact aV.nil _ _
   ·rw [oq,e];exact hc
  ·obtain ⟨k,rfl⟩:=Int.eq_ofNat_of_zero_le (show 0≤n by omega)
   have e:jL xs false (k:Int)=true:=iY.2 ⟨rfl,by omega,by omega⟩
   refine (craw_ok p q xs k w h (by omega) hl).mono ?_
   rintro e' w' ⟨v,rfl,ho,hc,hk⟩
   refine ⟨_,rfl,?_,?_,hk⟩
   ·rw [jl,e];exact ho
   ·rw [oq,e];exact hc
def BI (ys:List Int):Int:=ys.foldl (fun u x=>bits .or .u64 (IntKind.u64.wrap (u * 256)) (IntKind.u64.wrap x)) 0
def zD (xs:List Int) (bad:Bool):Int:=wrap64 (BI (jl xs bad 8))
theorem Dh (ys:List Int) (j:Nat) (hj:j < ys.length):BI (ys.take (j+1))=bits .or .u64 (IntKind.u64.wrap (BI (ys.take j) * 256)) (IntKind.u64.wrap (ys.getD j 0)):=by
 rw [iD ys j 0 hj,BI,List.foldl_append]
 rfl
theorem zY (p q:Nat) (xs:List Int) (bad:Bool) (w:World) (h:dO w p q xs bad) (hl:xs.length≤1099511627776) :
  Calls Tryd.prog 19 #[.pointer (some ⟨p,0,none⟩)] w fun e w'=>e = .returned (.int .i64 (zD xs bad))∧dO w' p q (oq xs bad 8) (!jL xs bad 8)∧Kept (· = p) w w':=by
 have HR:=Lib.hid (pI p q xs bad 8 w h hl)
 have HV:Hid (zD xs bad=wrap64 (BI (jl xs bad 8))):=Lib.hid rfl
 have h8:(jl xs bad 8).length≤8:=by unfold jl;split <;> simp <;> omega
 clear h hl
 generalize zD xs bad=iv at HV
 generalize jl xs bad 8=ys at HR HV h8
 go_enter Tryd.func19, Tryd.ntmps19
 go_upto_region 2 with fail
 go_wp2_with (go_at_call 18; refine HR.out.mono ?_;rintro e w1 ⟨v1,rfl,ho1,hc1,hk1⟩;have Br:=Lib.hid (And.intro hc1 hk1);obtain ⟨s1,c1,rfl,hcc,hm1,hs1, -⟩:=ho1.form;have gY:=Lib.hid hs1;clear hc1 hk1 ho1 hs1 hm1)
 generalize hln:ys.length=ln
 have HLN:=Lib.hid hln
 rw [hln] at gY
 rw [hln] at h8
 clear hln hcc
 go_loopw [3,9] (fun u i wr=>∃ j:Nat,j≤ln∧i = .int .i64 j∧u = .int .u64 (BI (ys.take j))∧wr=w1) (fun _ i _=>ln - (intOf i).toNat)
 case atStart=>exact ⟨0,Nat.zero_le _,rfl,rfl,rfl⟩
 case round =>
  obtain ⟨j,hj,rfl,rfl,rfl⟩:=hrel
  by_cases hlt:j < ln
  ·obtain ⟨a,rfl,x0⟩:=gY.out.cell j hlt
   have HB:=Lib.hid (Dh ys j (by rw [HLN.out];exact hlt))
   generalize BI (ys.take j)=u at HB
   generalize ys.getD j 0=x at HB x0
   go_wp2_with fail
   go_roundw
   case rel=>exact ⟨j+1,by omega,by go_num,by rw [HB.out],trivial⟩
   case measure=>simp [intOf];omega
  ·have e:ys.take j=ys:=List.take_of_length_le (by rw [HLN.out];omega)
   rw [e]
   have hv:=HV.out
   generalize BI ys=u at hv
   subst hv
   clear HV
   go_wp2_with fail
   go_ret
   exact ⟨rfl,Br.out⟩
end Go.Proofs.YthdgbgleklkaiaaDoor
namespace Go.Proofs.YthdgbgleklkaiaaDoor
open Go.RowKit
theorem Zr (p q:Nat) (xs:List Int) (bad:Bool) (w:World) (h:dO w p q xs bad) :
    Calls Tryd.prog 22 #[.pointer (some ⟨p,0,none⟩)] w fun e w'=>e = .returned (.bool (!bad && decide (xs.length=0)))∧w=w':=by
  obtain ⟨⟨sa,c,h1, -, -, -, -⟩, -, -⟩:=h
  have c0:w.cell? ⟨p,0,none⟩=some (.slice sa xs.length c):=aG h1 0
  have c1:w.cell? ⟨p,1,none⟩=some (.bool bad):=aG h1 1
  clear h1
  generalize xs.length=n at c0 ⊢
  cases bad with
  | true =>
    go_enter Tryd.func22, Tryd.ntmps22
    go_wp2_with fail
    all_goals (try simp only [Exit.then])
    go_ret
    exact ⟨rfl,rfl⟩
  | false =>
    by_cases hn:n=0
    · subst hn
      go_enter Tryd.func22, Tryd.ntmps22
      go_wp2_with fail
      all_goals (try simp only [Exit.then])
      go_ret
      exact ⟨rfl,rfl⟩
    · have hz:((n:Int) == 0)=false:=by rw [beq_eq_false_iff_ne];omega
      rw [decide_eq_false hn]
      go_enter Tryd.func22, Tryd.ntmps22
      go_wp2_with fail
      all_goals (try simp only [Exit.then])
      go_ret
      exact ⟨rfl,rfl⟩
end Go.Proofs.YthdgbgleklkaiaaDoor
namespace Go.Proofs.YthdgbgleklkaiaaDoor.Ce
open Go.RowKit Lm Fp Cu Sl Sc
structure NS (w u:World) (g:Nat) (C:Array Value) (t:TypeId) (zs:List Int) (bad:Bool) (p q:Nat):Prop where
  i:u.heap[g]? = some (.cells C t (0,0))
  c:dO u p q zs bad
  p1:g≠p
  p2:w.heap.size≤p
  b:Below w.heap.size w u
theorem NS.turn {w u u':World} {g:Nat} {C:Array Value} {t:TypeId} {zs zs':List Int} {bad bad':Bool} {p q:Nat} (h:NS w u g C t zs bad p q) (k:Kept (· = p) u u') (c:dO u' p q zs' bad'):NS w u' g C t zs' bad' p q :=
  ⟨k.blk h.i h.p1,c,h.p1,h.p2,h.b.trans ⟨k.os,k.tape,k.output,k.size,fun i hi=>k.block i (Nat.lt_of_lt_of_le hi h.b.size) (by have:=h.p2;omega)⟩⟩
theorem NS.fresh {w u u':World} {g:Nat} {C:Array Value} {t:TypeId} {zs:List Int} {bad:Bool} {p q:Nat} (h:NS w u g C t zs bad p q) (k:Below u.heap.size u u'):NS w u' g C t zs bad p q :=
  ⟨Below.blk k h.i (aR h.i),h.c.below k,h.p1,h.p2,h.b.trans (k.mono h.b.size)⟩
theorem QI {xs:List Int} (h:bytes xs) (bad:Bool) (n:Int):bytes (jl xs bad n)∧bytes (oq xs bad n):=by
  constructor
  · unfold jl
    split
    · exact fun x hx=>h x (List.mem_of_mem_take hx)
    · exact fun x hx=>absurd hx (by simp)
  · unfold oq
    split
    · exact fun x hx=>h x (List.mem_of_mem_drop hx)
    · split
      · exact h
      · exact fun x hx=>absurd hx (by simp)
theorem raw_len (xs:List Int) (bad:Bool) (n:Int):(oq xs bad n).length≤xs.length:=by
  unfold oq
  split
  · simp
  · split
    · exact Nat.le_refl _
    · simp
end Go.Proofs.YthdgbgleklkaiaaDoor.Ce
namespace Go.Proofs.YthdgbgleklkaiaaDoor.Ms
open Go.RowKit Lm Fp Cu Sl Sc Ce
def iP (d:List Int) (v:Int):List Int:=Ha.hash (d ++ jo v)
theorem zA (d:List Int) (v:Int):(iP d v).length=32:=Ha.dZ _
theorem Rf {a b c d:List Int} (v:Int) (w:World) (ha:a.length=32) (hb:b.length=32) (hc:c.length=32) (hd:d.length=32) (bd:bytes d) (hv : -9223372036854775808≤v∧v≤9223372036854775807) (hT:Ha.eB w) :
  Calls Tryd.prog 31 #[.agg (kT a b c d), .int .i64 v] w fun e w'=>e = .returned (.agg (arr .u8 (iP d v)))∧Below w.heap.size w w':=by
 obtain ⟨zn,hzn⟩:∃ zs:List Int,zs=List.replicate 32 0:=⟨_,rfl⟩
 have HZ:Hid (∀ w,(zeroValue 23).run Tryd.prog w = .ok (.agg (arr .u8 zn)) w):=Lib.hid (by intro w;rw [hzn];exact zero_num w)
 have HLz:Hid (zn.length=32):=Lib.hid (by rw [hzn];rfl)
 have hbx:bytes (d ++ jo v):=fun x hx=>by
  rcases List.mem_append.1 hx with h|h
  ·exact bd x h
  ·exact kP v x h
 have M1:=fun u=>fO v u hv
 have M2:=fun sa c u (hs:Src u sa 40 (d ++ jo v)) ht=>Ha.kE sa 40 c (d ++ jo v) u hs hbx (by decide) ht
 have hkl:=zA d v
 have hke:Ha.hash (d ++ jo v)=iP d v:=rfl
 rw [hke] at M2
 have hbl:=gW v
 generalize iP d v=K at M2 hkl ⊢
 generalize jo v=b8 at M1 M2 hbl
 have hpt:=(uU ha hb hc hd).2.2.2
 generalize kT a b c d=SC at hpt ⊢
 have hs0:Src ((w.alloc (.cells SC 47)).alloc (.cells (arr .u8 zn) 23)) (some ⟨w.heap.size,96,none⟩) d.length d:=Mf.sQ (bf (aL w _) _) 96 hpt
 rw [hd] at hs0
 have HS:=Lib.hid hs0
 have Dk:Hid (((w.alloc (.cells SC 47)).alloc (.cells (arr .u8 zn) 23)).heap[w.heap.size+1]? = some (.cells (arr .u8 zn) 23 (0,0))):=Lib.hid (by have:=aL (w.alloc (.cells SC 47)) (.cells (arr .u8 zn) 23);rwa [World.size_alloc] at this)
 have HB:=Lib.hid (((Below.refl _ w).alloc (Nat.le_refl _) (.cells SC 47)).alloc (by simp) (.cells (arr .u8 zn) 23))
 have Z5:=Lib.hid (fun (u:World) (k:Below w.heap.size w u)=>Ha.eB.kept hT (Kept.of_below (T:=fun _=>False) k) (fun h=>h))
 have F5:=Lib.hid M1
 have PD:=Lib.hid M2
 have l9:=Lib.hid hkl
 have sD:=Lib.hid hbl
 have x9:=Lib.hid hd
 clear M1 M2 hkl hke hbl hpt hs0 ha hb hc hd bd hv hT hbx hzn
 go_enter Tryd.func31, Tryd.ntmps31
 go_upto_region 1 with ((with_reducible refine aS 4 ?_);refine aj rfl 23 rfl _ (HZ.out _) ?_)
 (try simp only [World.size_alloc,Act.put,sA,sZ,sS])
 generalize ((w.alloc (.cells SC 47)).alloc (.cells (arr .u8 zn) 23))=wb at HS Dk HB ⊢
 go_wp2_with (first|((with_reducible refine aS 7 ?_);refine aO rfl (.const (.slice none 0 0)) (.tmp 6) rfl wb.heap.size (.slice none 0 0) [] rfl (aV.nil _ _) (some ⟨w.heap.size,96,none⟩) 32 32 d rfl HS.out (by decide) (Nat.le_refl _) ?_;intro v1 w1 how hgr _ _;have HB1:=Lib.hid (aQ (aV.nil _ _) hgr (Below.refl _ wb) (Nat.le_refl _));have Sz:Hid (aV w1 wb.heap.size v1 d):=Lib.hid how;clear how hgr)|((with_reducible show Calls _ 30 _ _ _);go_at_call 30; refine (F5.out _).mono ?_;rintro e w2 ⟨v2,rfl,ho2,hb2⟩;have BM:=Lib.hid (Sz.out.below hb2);have HB2:=Lib.hid (HB1.out.trans (hb2.mono HB1.out.size));obtain ⟨s2,c2,hv2, -, -, hs2, -⟩:=ho2.form;rw [sD.out] at hv2 hs2;subst hv2;have HS2:=Lib.hid hs2;clear hs2 ho2 hb2)|((with_reducible refine aS 10 ?_);refine aO rfl (.tmp 7) (.tmp 9) rfl wb.heap.size v1 d rfl BM.out s2 8 c2 b8 rfl HS2.out (by rw [x9.out];decide) HB2.out.size ?_;intro v3 w3 how hgr _ _;have HB3:=Lib.hid (aQ BM.out hgr HB2.out HB2.out.size);obtain ⟨s3,c3,hv3, -, -, hs3, -⟩:=how.form;rw [List.length_append,x9.out,sD.out] at hv3 hs3;subst hv3;have F3:=Lib.hid hs3;clear hs3 how hgr)|((with_reducible show Calls _ 14 _ _ _);go_at_call 14; refine (PD.out _ _ _ F3.out (Z5.out _ (HB.out.trans (HB3.out.mono HB.out.size)))).mono ?_;rintro e w4 ⟨rfl,hb4⟩;have qE:=Lib.hid (HB.out.trans ((HB3.out.trans (hb4.mono HB3.out.size)).mono HB.out.size));have HR4:=Lib.hid (Below.blk (HB3.out.trans (hb4.mono HB3.out.size)) Dk.out (aR Dk.out));clear hb4)|((with_reducible refine aT 4 ?_);refine ah rfl 23 _ _ rfl (w.heap.size+1) _ _ 23 HR4.out rfl rfl (ay _ _ l9.out HLz.out) (Sl.bE l9.out) (av _ _) ?_;intro w5 hb hk hz;have gu:=Lib.hid hb;have HK5:=Lib.hid hk;clear hb hk hz))
 (try simp only [Exit.then])
 refine bodyPost_ret (results_cell_row rfl _ _ (w.heap.size+1) 23 _ (0,0) _ rfl gu.out Tryd.underlying23 rfl (Sl.bE l9.out)) rfl ?_
 exact ⟨rfl,qE.out.trans ⟨HK5.out.os,HK5.out.tape,HK5.out.output,HK5.out.size,fun i hi=>HK5.out.block i (Nat.lt_of_lt_of_le hi qE.out.size) (fun e=>by have e:i=w.heap.size+1:=e;omega)⟩⟩
end Go.Proofs.YthdgbgleklkaiaaDoor.Ms
