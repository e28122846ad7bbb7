/- Stops and certificates are compared. The document's SameManifest of tw. Condition: as each theorem says. -/

import Derived.Test.YthdgbgleklkaiaaGreatDoorQc33
import Derived.Test.YthdgbgleklkaiaaGreatDoorQc35
open Go.Lib renaming hid→abC
open List renaming drop_drop→abD,length_append→abE,take_of_length_le→abF,take_left'→abG,map_cons→abH,map_nil→abI,length_drop→abJ,getElem?_map→abK,drop_zero→abY
open Nat renaming le_refl→abL,lt_of_lt_of_le→abQ,mod_eq_of_lt→abW
open Int renaming toNat_natCast→abM
open Array renaming toList_extract→abO
open BitVec renaming ofInt→abT,ofInt_natCast→abU,toNat_ofNat→abV
set_option linter.unusedSimpArgs false
set_option linter.unusedVariables false
set_option maxRecDepth 100000
set_option maxHeartbeats 16000000
namespace Go.Proofs.YthdgbgleklkaiaaGreatDoor.Ce
open Go.RowKit Lm Fp Cu Sl Sc
theorem WK (t:TypeId) (d:TypeDesc) (hu : Tryz.prog.underlying t=some d) (hd:NP d=false) (cs:Array Value) (off:Nat) (v:Value) (h:cs[off]? = some v) (w:World):(part t cs off).run Tryz.prog w = .ok v w:=by
 have ha:(isAgg t).run Tryz.prog w = .ok false w:=by
  unfold isAgg
  simp only [Sem.run_bind,run_underlying hu,Result.andThen_ok]
  cases d <;> simp_all [NP]
 simp [part,ha,h]
theorem IQ (t:TypeId) (n:Nat) (hu:∃ d, Tryz.prog.underlying t=some d∧NP d=true) (hs:∀ w,(sizeOf t).run Tryz.prog w = .ok n w) (cs:Array Value) (off:Nat) (w:World):(part t cs off).run Tryz.prog w = .ok (.agg (cs.extract off (off+n))) w:=by
 obtain ⟨d,hu,hd⟩:=hu
 have ha:(isAgg t).run Tryz.prog w = .ok true w:=by
  unfold isAgg
  simp only [Sem.run_bind,run_underlying hu,Result.andThen_ok]
  cases d <;> simp_all [NP]
 simp [part,ha,hs]
theorem Ui (id:Int) (ks gs:List Int) (hk:ks.length=32):(dz id ks gs).extract 1 (1+32)=arr .u8 ks:=by
 apply Array.ext'
 simp [dz,arr,abO,List.extract,hk,abF]
theorem Uh (id:Int) (ks gs:List Int) (hk:ks.length=32) (h:gs.length=64):(dz id ks gs).extract 33 (33+64)=arr .u8 gs:=by
 apply Array.ext'
 simp [dz,arr,abO,List.extract,hk,h,abF,List.drop_of_length_le]
theorem eq_cert (id:Int) (ks gs:List Int) (hk:ks.length=32) (h:gs.length=64) (w:World):(Op.equalIn 10000 29 (.agg (dz id ks gs)) (.agg (dz id ks gs))).run Tryz.prog w = .ok true w:=by
 rw [run_equalIn_struct w 9999 29 _ _ Tryz.underlying29 (by kernel_rfl)]
 have hf:(Tryz.prog.fieldsOf 29).toList.map (fun f=>(f.name == "_", f.type,f.offset))=[(false, 3, 0),(false, 25, 1),(false, 27, 33)]:=by kernel_rfl
 generalize (Tryz.prog.fieldsOf 29).toList=fs at hf ⊢
 obtain ⟨f0,r0,rfl,h0,hr⟩:=List.map_eq_cons_iff.1 hf
 obtain ⟨f1,r1,rfl,h1,hr⟩:=List.map_eq_cons_iff.1 hr
 obtain ⟨f2,r2,rfl,h2,hr⟩:=List.map_eq_cons_iff.1 hr
 obtain rfl:=List.map_eq_nil_iff.1 hr
 simp only [Prod.mk.injEq,beq_eq_false_iff_ne] at h0 h1 h2
 obtain ⟨a1,a2,a3⟩:=h0
 obtain ⟨b1,b2,b3⟩:=h1
 obtain ⟨c1,c2,c3⟩:=h2
 have p0:=fun w=>WK 3 _ Tryz.underlying3 rfl (dz id ks gs) 0 _ (ZP id ks gs) w
 have p1:=fun w=>IQ 25 32 ⟨_, Tryz.underlying25, rfl⟩ (fun w=>by kernel_rfl) (dz id ks gs) 1 w
 rw [Ui id ks gs hk] at p1
 have p2:=fun w=>IQ 27 64 ⟨_, Tryz.underlying27, rfl⟩ (fun w=>by kernel_rfl) (dz id ks gs) 33 w
 rw [Uh id ks gs hk h] at p2
 have e1:=fun w=>fO w 9997 25 5 32 .u8 .u8 Tryz.underlying25 Tryz.underlying5 (fun w=>by kernel_rfl) ks ks hk hk
 have e2:=fun w=>fO w 9997 27 5 64 .u8 .u8 Tryz.underlying27 Tryz.underlying5 (fun w=>by kernel_rfl) gs gs h h
 have e0:=fun w=>run_equalIn_int w 9998 3 .i64 _ id id Tryz.underlying3
 simp [Op.eqFields,p0,p1,p2,e0,e1,e2,a1,a2,a3,b1,b2,b3,c1,c2,c3]
theorem ZB {o:Oper} {ρ:Operand→Value} {t ty:TypeId} {x y:Operand} {cs:Array Value} (ho:o.op = .binOp .eql t x y ty) (hm : Tryz.prog.eqGuardType Tryz.prog.depth t=false) (hx:ρ x = .agg cs) (hy:ρ y = .agg cs) (he:∀ w,(Op.equalIn 10000 t (.agg cs) (.agg cs)).run Tryz.prog w = .ok true w) (w:World):(execOp ρ o).run Tryz.prog w = .ok (.value (.bool true)) w:=by
 simp only [execOp,ho,hx,hy,Sem.run_bind,run_eqGuard_agg w .eql t x y _ _ hm,Result.andThen_ok,run_eql_struct,he]
 rfl
theorem mY {o:Oper} {ρ:Operand→Value} {t ty:TypeId} {x y:Operand} {cs:Array Value} (ho:o.op = .binOp .eql t x y ty) (hm : Tryz.prog.eqGuardType Tryz.prog.depth t=false) (e:[x,y].map ρ=[.agg cs, .agg cs]) (he:∀ w,(Op.equalIn 10000 t (.agg cs) (.agg cs)).run Tryz.prog w = .ok true w) (w:World):(execOp ρ o).run Tryz.prog w = .ok (.value (.bool true)) w:=by
 simp only [abH,abI,List.cons.injEq,and_true] at e
 exact ZB ho hm e.1 e.2 he w
theorem eg_cert : Tryz.prog.eqGuardType Tryz.prog.depth 29 = false:=by kernel_rfl
end Go.Proofs.YthdgbgleklkaiaaGreatDoor.Ce
namespace Go.Proofs.YthdgbgleklkaiaaGreatDoor.Mf
open Go.RowKit Lm Fp Cu Sl Sc Ce
theorem DC {v b i:Int} {ro ks gs ss:List Int} {wv:Value} (h1:ro.length=32):∀ j x,(dz i ks gs).toList[j]? = some x→(bg v b ro wv i ks gs ss)[35+j]? = some x:=by
 intro j x h
 have e:(bg v b ro wv i ks gs ss).toList=(.int .i64 v :: .int .i64 b :: (ro.map (Value.int .u8) ++ [wv])) ++ ((dz i ks gs).toList ++ ss.map (Value.int .u8)):=by
  rw [bP]
  simp [dz,arr]
 have hl:(Value.int .i64 v :: Value.int .i64 b :: (ro.map (Value.int .u8) ++ [wv])).length=35:=by simp [h1]
 rw [aaV e,List.getElem?_append_right (by omega),hl,Nat.add_sub_cancel_left,List.getElem?_append_left]
 ·exact h
 ·exact (List.getElem?_eq_some_iff.1 h).1
theorem Ni : Tryz.prog.eqGuardType Tryz.prog.depth 25 = false:=by kernel_rfl
theorem eg_sig : Tryz.prog.eqGuardType Tryz.prog.depth 27 = false:=by kernel_rfl
theorem F8 (H:List Int) (hl:H.length=32) (w:World):(Op.equalIn 10000 25 (.agg (arr .u8 H)) (.agg (arr .u8 H))).run Tryz.prog w = .ok true w:=by
 have:=fO (P := Tryz.prog) w 9998 25 5 32 .u8 .u8 Tryz.underlying25 Tryz.underlying5 (fun w=>by kernel_rfl) H H hl hl
 rwa [beq_self_eq_true] at this
theorem eqn_sig (H:List Int) (hl:H.length=64) (w:World):(Op.equalIn 10000 27 (.agg (arr .u8 H)) (.agg (arr .u8 H))).run Tryz.prog w = .ok true w:=by
 have:=fO (P := Tryz.prog) w 9998 27 5 64 .u8 .u8 Tryz.underlying27 Tryz.underlying5 (fun w=>by kernel_rfl) H H hl hl
 rwa [beq_self_eq_true] at this
theorem JB {o:Oper} {ρ:Operand→Value} {ty:TypeId} {x y:Operand} {n:Int} (ho:o.op = .binOp .eql 3 x y ty) (e:[x,y].map ρ=[.int .i64 n, .int .i64 n]) (u:World):(execOp ρ o).run Tryz.prog u = .ok (.value (.bool true)) u:=by
 simp only [abH,abI,List.cons.injEq,and_true] at e
 have hq:(n == n)=true:=beq_self_eq_true n
 simp only [execOp,ho,e.1,e.2]
 go_simp
theorem ZA {o:Oper} {ρ:Operand→Value} {ty:TypeId} {x y:Operand} {S:ByteArray} (ho:o.op = .binOp .eql 9 x y ty) (e:[x,y].map ρ=[.string S, .string S]) (h:(S.toList == S.toList)=true) (u:World):(execOp ρ o).run Tryz.prog u = .ok (.value (.bool true)) u:=by
 simp only [abH,abI,List.cons.injEq,and_true] at e
 simp only [execOp,ho,e.1,e.2]
 go_simp
theorem DR {o:Oper} {ρ:Operand→Value} {x:Operand} {sa:Option Addr} {n c:Nat} {u:World} {T:List Int} {S:ByteArray} (ho:o.op = .convert 22 9 x) (e:[x].map ρ=[.slice sa n c]) (h:Src u sa n T) (hS:strOfNums T=S):(execOp ρ o).run Tryz.prog u = .ok (.value (.string S)) u:=by
 simp only [abH,abI,List.cons.injEq,and_true] at e
 have hc:=KD (c:=c) h
 rw [hS] at hc
 simp only [execOp,ho,e]
 exact QM hc
theorem kY {ro ks gs ss ws:List Int} (v b i:Int) (s1 s2:Option Addr) (n c1 c2:Nat) (w:World) (h1:ro.length=32) (h2:ks.length=32) (h3:gs.length=64) (h4:ss.length=64) (hs1:Src w s1 n ws) (hs2:Src w s2 n ws) :
  Calls Tryz.prog 14 #[.agg (bg v b ro (.slice s1 n c1) i ks gs ss), .agg (bg v b ro (.slice s2 n c2) i ks gs ss)] w fun e w'=>e = .returned (.bool true)∧Below w.heap.size w w':=by
 have HA1:=abC hs1
 have HA2:=abC hs2
 have iR:=abC h1
 have HSL:=abC h4
 have H10:=abC (rC (v:=v) (b:=b) (i:=i) (ro:=ro) (ks:=ks) (gs:=gs) (ss:=ss) (wv := .slice s1 n c1))
 have H11:=abC (pq (v:=v) (b:=b) (i:=i) (ro:=ro) (ks:=ks) (gs:=gs) (ss:=ss) (wv := .slice s1 n c1))
 have H12:=abC (FJ (v:=v) (b:=b) (i:=i) (ro:=ro) (ks:=ks) (gs:=gs) (ss:=ss) (wv := .slice s1 n c1))
 have H134:=abC (lT (v:=v) (b:=b) (i:=i) (ks:=ks) (gs:=gs) (ss:=ss) (wv := .slice s1 n c1) h1)
 have H135:=abC (DC (v:=v) (b:=b) (i:=i) (ks:=ks) (gs:=gs) (ss:=ss) (wv := .slice s1 n c1) h1)
 have H1132:=abC (yC (v:=v) (b:=b) (i:=i) (ss:=ss) (wv := .slice s1 n c1) h1 h2 h3)
 have H20:=abC (rC (v:=v) (b:=b) (i:=i) (ro:=ro) (ks:=ks) (gs:=gs) (ss:=ss) (wv := .slice s2 n c2))
 have H21:=abC (pq (v:=v) (b:=b) (i:=i) (ro:=ro) (ks:=ks) (gs:=gs) (ss:=ss) (wv := .slice s2 n c2))
 have H22:=abC (FJ (v:=v) (b:=b) (i:=i) (ro:=ro) (ks:=ks) (gs:=gs) (ss:=ss) (wv := .slice s2 n c2))
 have H234:=abC (lT (v:=v) (b:=b) (i:=i) (ks:=ks) (gs:=gs) (ss:=ss) (wv := .slice s2 n c2) h1)
 have H235:=abC (DC (v:=v) (b:=b) (i:=i) (ks:=ks) (gs:=gs) (ss:=ss) (wv := .slice s2 n c2) h1)
 have H2132:=abC (yC (v:=v) (b:=b) (i:=i) (ss:=ss) (wv := .slice s2 n c2) h1 h2 h3)
 have HCI:Hid ((Tryz.prog.info? 29).map (·.size)=some (dz i ks gs).size):=abC (by rw [jO h3 h2];exact kQ)
 have HEN:=abC (fun w=>F8 ro h1 w)
 have HES:=abC (fun w=>eqn_sig ss h4 w)
 have HEC:=abC (fun w=>eq_cert i ks gs h2 h3 w)
 obtain ⟨S,hS⟩:∃ S,S=strOfNums ws:=⟨_,rfl⟩
 have HST:=abC hS.symm
 have HSQ:Hid ((S.toList == S.toList)=true):=abC (beq_self_eq_true _)
 generalize dz i ks gs=CC at H135 H235 HCI HEC
 generalize bg v b ro (.slice s1 n c1) i ks gs ss=M1 at H10 H11 H12 H134 H135 H1132 ⊢
 generalize bg v b ro (.slice s2 n c2) i ks gs ss=M2 at H20 H21 H22 H234 H235 H2132 ⊢
 have bW:=abC (bO.two w M1 M2 31 31)
 clear h1 h2 h3 h4 hs1 hs2 hS
 go_enter Tryz.func14, Tryz.ntmps14
 go_upto_region 1 with fail
 (try simp only [World.size_alloc,Act.put,sA,sZ,sS])
 generalize ((w.alloc (.cells M1 31)).alloc (.cells M2 31))=wb at bW ⊢
 refine oO (T:=fun _=>False) (w:=w) (sy:=[Yp (w.heap.size) 0,Yv (.int .i64 v),Yp (w.heap.size+1) 0,Yv (.int .i64 v),Yv (.bool true),Yv (.bool true),Yp (w.heap.size) 1,Yv (.int .i64 b),Yp (w.heap.size+1) 1,Yv (.int .i64 b),Yv (.bool true),Yv (.bool true),Yv (.bool true),Yp (w.heap.size) 2,Yr .u8 ro,Yp (w.heap.size+1) 2,Yr .u8 ro,Yv (.bool true),Yv (.bool true),Yv (.bool true),Yp (w.heap.size) 34,Yv (.slice s1 n c1),Yv (.string S),Yp (w.heap.size+1) 34,Yv (.slice s2 n c2),Yv (.string S),Yv (.bool true),Yv (.bool true),Yv (.bool true),Yp (w.heap.size) 35,Yv (.agg CC),Yp (w.heap.size+1) 35,Yv (.agg CC),Yv (.bool true),Yv (.bool true),Yv (.bool true),Yp (w.heap.size) 132,Yr .u8 ss,Yp (w.heap.size+1) 132,Yr .u8 ss,Yv (.bool true),Yv (.bool true),Yv (.bool true)]) (pt:=[]) (by kernel_rfl) (by kernel_rfl) bW.out.holds (fun hW=>?s1) (fun q1 x1 u1 _ hH=>?e1)
 case s1 =>
  refine jH hW ?_
  refine JV hW ?_ 0 0 M1 31 H10.out (d:=_) rfl Tryz.underlying3
  refine jH hW ?_
  refine JV hW ?_ 1 0 M2 31 H20.out (d:=_) rfl Tryz.underlying3
  refine SyX hW ?_ [.tmp 6, .tmp 8] [.int .i64 v, .int .i64 v] (fun ρ u _ e=>JB rfl e u)
  refine jH hW ?_
  refine oM (jH hW ?_)
  refine oM (JV hW ?_ 0 1 M1 31 H11.out (d:=_) rfl Tryz.underlying3)
  refine oM (jH hW ?_)
  refine oM (JV hW ?_ 1 1 M2 31 H21.out (d:=_) rfl Tryz.underlying3)
  refine oM (SyX hW ?_ [.tmp 12, .tmp 14] [.int .i64 b, .int .i64 b] (fun ρ u _ e=>JB rfl e u))
  refine jH hW ?_
  refine jH hW ?_
  refine oM (jH hW ?_)
  refine oM (vM hW ?_ 0 2 M1 31 KJ iR.out H12.out)
  refine oM (jH hW ?_)
  refine oM (vM hW ?_ 1 2 M2 31 KJ iR.out H22.out)
  refine oM (SyX hW ?_ [.tmp 19, .tmp 21] [.agg (arr .u8 ro), .agg (arr .u8 ro)] (fun ρ u _ e=>mY rfl Ni e HEN.out u))
  refine jH hW ?_
  refine jH hW ?_
  refine oM (jH hW ?_)
  refine oM (JV hW ?_ 0 34 M1 31 H134.out (d:=_) rfl Tryz.underlying22)
  refine oM (SyX hW ?_ [.tmp 26] [.slice s1 n c1] (fun ρ u k e=>DR rfl e (HA1.out.kept k (fun _ _ => .inr id)) HST.out))
  refine oM (jH hW ?_)
  refine oM (JV hW ?_ 1 34 M2 31 H234.out (d:=_) rfl Tryz.underlying22)
  refine oM (SyX hW ?_ [.tmp 29] [.slice s2 n c2] (fun ρ u k e=>DR rfl e (HA2.out.kept k (fun _ _ => .inr id)) HST.out))
  refine oM (SyX hW ?_ [.tmp 27, .tmp 30] [.string S, .string S] (fun ρ u _ e=>ZA rfl e HSQ.out u))
  refine jH hW ?_
  refine jH hW ?_
  refine oM (jH hW ?_)
  refine oM (SyLa hW ?_ 0 35 M1 31 H135.out Tryz.underlying29 rfl HCI.out)
  refine oM (jH hW ?_)
  refine oM (SyLa hW ?_ 1 35 M2 31 H235.out Tryz.underlying29 rfl HCI.out)
  refine oM (SyX hW ?_ [.tmp 35, .tmp 37] [.agg CC, .agg CC] (fun ρ u _ e=>mY rfl eg_cert e HEC.out u))
  refine jH hW ?_
  refine jH hW ?_
  refine oM (jH hW ?_)
  refine oM (vM hW ?_ 0 132 M1 31 rowS HSL.out H1132.out)
  refine oM (jH hW ?_)
  refine oM (vM hW ?_ 1 132 M2 31 rowS HSL.out H2132.out)
  refine oM (SyX hW ?_ [.tmp 42, .tmp 44] [.agg (arr .u8 ss), .agg (arr .u8 ss)] (fun ρ u _ e=>mY rfl eg_sig e HES.out u))
  refine jH hW ?_
  refine jH hW ?_
  exact SyN
 case e1 =>
  have HB1:=abC (hH.blk [0,1] [(w.heap.size,M1, 31),(w.heap.size+1,M2, 31)] (by decide) (by kernel_rfl))
  simp only [lay,Sy.at,CQ,Yr,Yv,Yp,Yq,Yn,Y0,Yw,Act.put,sA,sZ,sS,Nat.reduceAdd]
  clear hH bW
  (try simp only [Exit.then])
  go_wp2_with fail
  go_ret
  exact ⟨rfl,HB1.out.below⟩
end Go.Proofs.YthdgbgleklkaiaaGreatDoor.Mf
namespace Go.Proofs.YthdgbgleklkaiaaGreatDoor.Ce
open Go.RowKit Go.ChangeShapes Go.WideShapes Lm Fp Cu Sl Sc
theorem dI {P:Program} {ops:Array Oper} {rest:List Oper} {o:Oper} {a:Act} {w:World} {Q:Exit→Act→World→Prop} (hgd:Region.wanted o (yielded ops a.tmps)=true) (ty:TypeId) (x:Operand) (ho:o.op = .load ty x)
  (g:Nat) (hx:a.eval x = .pointer (some ⟨g,0,none⟩)) (t:TypeId) (cs:Array Value) (fr:Nat×Nat) (d:TypeDesc) (hg:w.heap[g]? = some (.cells cs t fr))
  (hu:P.underlying ty=some d) (hd:(match d with | .struct _ | .array _ _=>true|_=>false)=true) (hi:(P.info? ty).map (·.size)=some cs.size)
  (h:wpList P ops Q rest (a.put o.dst (.agg cs)) w):wpList P ops Q (o :: rest) a w:=by
 unfold wpList
 rw [if_pos hgd]
 exact .inl (wp_load_row ty x ho g hx t cs fr d hg hu hd hi h)
theorem wN {P:Program} {ops:Array Oper} {rest:List Oper} {o:Oper} {a:Act} {w:World} {Q:Exit→Act→World→Prop} (hgd:Region.wanted o (yielded ops a.tmps)=true) (v:Value) (hrun:(execOp a.eval o).run P w = .ok (.value v) w) (h:wpList P ops Q rest (a.put o.dst v) w):wpList P ops Q (o :: rest) a w:=by
 unfold wpList
 rw [if_pos hgd]
 left
 unfold Oper.wp
 rw [hrun]
 exact h
theorem _root_.Go.Proofs.YthdgbgleklkaiaaGreatDoor.bO.holdsT {w u:World} {L:List (Nat×Array Value×TypeId)} (h:bO w u L):Holds (fun g=>∃ e∈L,e.1=g) u u fun κ=>(Dr L)[κ]? := by
 have h0:=h.holds
 refine ⟨fun i g p hi=>⟨(h0.mem i g p hi).1, .inl ?_⟩,h0.inj,Kept.refl _ _⟩
 have hi:(Dr L)[i]? = some (g,p):=hi
 simp only [Dr,abK,Option.map_eq_some_iff,Prod.mk.injEq] at hi
 obtain ⟨x,h1,h2, -⟩:=hi
 exact ⟨x,List.mem_of_getElem? h1,h2⟩
theorem _root_.Go.Proofs.YthdgbgleklkaiaaGreatDoor.bO.NH {w u u':World} {L:List (Nat×Array Value×TypeId)} (h:bO w u L) (k:Kept (fun g=>∃ e∈L,e.1=g) u u'):Below w.heap.size w u' :=
 h.below.trans ⟨k.os,k.tape,k.output,k.size,fun i hi=>k.block i (abQ hi h.below.size) (by
  rintro ⟨e,he,rfl⟩
  obtain ⟨j,hj,e2⟩:=List.getElem_of_mem he
  have:=h.low j (g:=e.1) (c:=e.2.1) (t:=e.2.2) (by rw [List.getElem?_eq_getElem hj,e2])
  omega)⟩
theorem Sk {w:World} {a:Option Addr} {len cap:Nat} {zs:List Int} (h:CU .u8 w a len cap zs):Src w a len (zs.take len)∧bytes (zs.take len)∧len≤cap:=by
 rcases h with ⟨rfl,rfl,rfl,rfl⟩|⟨x,rfl,hl,hm,hz,hc,hw⟩
 ·exact ⟨⟨rfl,fun i hi=>absurd hi (by omega)⟩,fun x hx=>by simp at hx,abL _⟩
 ·refine ⟨⟨by simp;omega,fun i hi=>⟨x,rfl,?_⟩⟩,fun y hy=>wf_u8 (hw y (List.mem_of_mem_take hy)),hl⟩
  rw [hc i (by omega)]
  simp [List.getD,hi]
end Go.Proofs.YthdgbgleklkaiaaGreatDoor.Ce
namespace Go.Proofs.YthdgbgleklkaiaaGreatDoor
open Go.RowKit
theorem Holds.blkT {w u u':World} {L0:List (Nat×Array Value×TypeId)} {M:Nat→Option (Nat×OP)} (hb:bO w u L0) (h:Holds (fun g=>∃ e∈L0,e.1=g) u u' M) (ks:List Nat) (l:List (Nat×Array Value×TypeId)) (hd:ks.Nodup) (hl:ks.map M=l.map fun e=>some (e.1,Cj e.2.1 e.2.2)):bO w u' l:=by
 have hlen:ks.length=l.length:=by have:=congrArg List.length hl;simpa using this
 have hx:∀ (i g:Nat) (c:Array Value) (t:TypeId),l[i]? = some (g,c,t)→∃ κ,ks[i]? = some κ∧M κ=some (g,Cj c t):=by
  intro i g c t hi
  have h1:(ks.map M)[i]? = some (some (g,Cj c t)):=by rw [hl,abK,hi];rfl
  rw [abK] at h1
  obtain ⟨κ,h2,h3⟩:=Option.map_eq_some_iff.1 h1
  exact ⟨κ,h2,h3⟩
 refine ⟨fun i g c t hi=>?_,fun i j g c t c' t' hi hj=>?_,hb.NH h.keep⟩
 ·obtain ⟨κ,_,h2⟩:=hx i g c t hi
  obtain ⟨⟨o,ho,rfl⟩,hT⟩:=h.mem κ g _ h2
  refine ⟨ho,?_⟩
  rcases hT with ⟨⟨g',c',t'⟩,he,rfl⟩|hT
  ·obtain ⟨k,hk⟩:=List.mem_iff_getElem?.1 he
   exact hb.low k hk
  ·exact Nat.le_trans hb.below.size hT
 ·obtain ⟨κ,h1,h2⟩:=hx i g c t hi
  obtain ⟨κ',h3,h4⟩:=hx j g c' t' hj
  have e:=h.inj κ κ' g _ _ h2 h4
  subst e
  obtain ⟨i1,i2⟩:=List.getElem?_eq_some_iff.1 h1
  obtain ⟨j1,j2⟩:=List.getElem?_eq_some_iff.1 h3
  exact (List.getElem_inj (h₀:=i1) (h₁:=j1) hd).1 (i2.trans j2.symm)
end Go.Proofs.YthdgbgleklkaiaaGreatDoor
namespace Go.Proofs.YthdgbgleklkaiaaGreatDoor.Ce
open Go.RowKit Lm Fp Cu Sl Sc
theorem WR (u x:Nat) (hu:u < 2 ^ 56) (hx:x < 256):bits .or .u64 (IntKind.u64.wrap ((u:Int) * 256)) (IntKind.u64.wrap (x:Int))=((u * 256+x:Nat):Int):=by
 have e1:IntKind.u64.wrap ((u:Int) * 256)=((u * 256:Nat):Int):=by rw [IntKind.wrap_u64];omega
 have e2:IntKind.u64.wrap (x:Int)=(x:Int):=by rw [IntKind.wrap_u64];omega
 rw [e1,e2]
 show IntKind.u64.wrap ((abT 64 ((u * 256:Nat):Int) ||| abT 64 (x:Int)).toNat:Int)=_
 have hy:x < 2 ^ 8:=hx
 rw [abU,abU,BitVec.toNat_or,abV,abV,abW (by omega),abW (by omega),show u * 256=2 ^ 8 * u by omega,← Nat.two_pow_add_eq_or_of_lt hy,IntKind.wrap_u64]
 omega
theorem JO (ys:List Int) (hb:bytes ys):∀ j,j≤ys.length→j≤8→∃ u:Nat,Bp (ys.take j)=(u:Int)∧u < 256 ^ j∧∀ k,k < 8→k < j→u / 256 ^ (j - 1 - k) % 256=(ys.getD k 0).toNat
 | 0,_,_=>⟨0,rfl,by decide,fun k _ h=>absurd h (Nat.not_lt_zero _)⟩
 | j+1,hj,h8=>by
  obtain ⟨u,h1,h2,h3⟩:=JO ys hb j (by omega) (by omega)
  have hx:=bytes_at hb j
  obtain ⟨x,hxe⟩:∃ x:Nat,ys.getD j 0=(x:Int):=⟨(ys.getD j 0).toNat,by omega⟩
  have hx2:x < 256:=by omega
  have hu:u < 2 ^ 56:=abQ h2 (by
   have:(256:Nat) ^ j≤256 ^ 7:=Nat.pow_le_pow_right (by decide) (by omega)
   exact Nat.le_trans this (by decide))
  refine ⟨u * 256+x,?_,?_,?_⟩
  ·rw [vH ys j (by omega),h1,hxe,WR u x hu hx2]
  ·rw [Nat.pow_succ];omega
  ·intro k hk hkj
   by_cases e:k=j
   ·subst e
    rw [show k+1 - 1 - k=0 by omega,Nat.pow_zero,Nat.div_one,hxe]
    omega
   ·have:=h3 k hk (by omega)
    rw [← this,show j+1 - 1 - k=(j - 1 - k)+1 by omega,Nat.pow_succ,Nat.mul_comm (256 ^ (j - 1 - k)) 256,← Nat.div_div_eq_div_mul,show (u * 256+x) / 256=u by omega]
theorem ZW (n:Int) (h:0≤n) (h2:n < 2 ^ 63) (zs:List Int):Bp ((jE n ++ zs).take 8)=n:=by
 have hb:bytes (jE n):=kT n
 have e:(jE n ++ zs).take 8=jE n:=by rw [List.take_append_of_le_length (by rw [iy];exact abL _),abF (by rw [iy];exact abL _)]
 obtain ⟨m,rfl⟩:=Int.eq_ofNat_of_zero_le h
 obtain ⟨u,h1,h3,h4⟩:=JO (jE m) hb 8 (by rw [iy];omega) (by omega)
 rw [abF (by rw [iy];omega)] at h1
 rw [e,h1]
 have hm:m < 2 ^ 63:=by omega
 have g:∀ k,k < 8→u / 256 ^ (7 - k) % 256=m / 256 ^ (7 - k) % 256:=by
  intro k hk
  have:=h4 k hk hk
  rw [this]
  have e2:(jE (m:Int)).getD k 0=(m:Int) / 2 ^ (8 * (7 - k)) % 256:=by simp [jE,List.getD,hk]
  rw [e2,show (256:Nat) ^ (7 - k)=2 ^ (8 * (7 - k)) by rw [Nat.pow_mul]]
  have:((m:Int) / 2 ^ (8 * (7 - k)) % 256)=((m / 2 ^ (8 * (7 - k)) % 256:Nat):Int):=by
   rw [Int.natCast_emod,Int.natCast_ediv,Int.natCast_pow];rfl
  rw [this,abM]
 have g0:=g 0 (by omega)
 have g1:=g 1 (by omega)
 have g2:=g 2 (by omega)
 have g3:=g 3 (by omega)
 have g4:=g 4 (by omega)
 have g5:=g 5 (by omega)
 have g6:=g 6 (by omega)
 have g7:=g 7 (by omega)
 simp only [Nat.sub_zero,Nat.reduceSub,Nat.reducePow] at g0 g1 g2 g3 g4 g5 g6 g7
 rw [show (256:Nat) ^ 8=18446744073709551616 by decide] at h3
 congr 1
 omega
theorem Ai (n:Int) (h:0≤n) (h2:n < 2 ^ 63) (zs:List Int):mq (jE n ++ zs) false=n:=by
 unfold mq bX
 have:dR (jE n ++ zs) false 8=true:=eu.2 ⟨rfl,by omega,by rw [abE,iy];omega⟩
 rw [if_pos this,show (8:Int).toNat=8 from rfl,ZW n h h2]
 exact IntWalk.wrap64_in n ⟨by omega,by omega⟩
end Go.Proofs.YthdgbgleklkaiaaGreatDoor.Ce
namespace Go.Proofs.YthdgbgleklkaiaaGreatDoor.Mf
open Go.RowKit Lm Fp Cu Sl Sc Ce
theorem kK (xs:List Int) (a n:Nat) (h:a+n≤xs.length):st n (xs.drop a,false)=(xs.drop (a+n),false):=by
 have o:dR (xs.drop a) false n=true:=eu.2 ⟨rfl,by omega,by rw [abJ];omega⟩
 unfold st
 simp only [mP,o,if_true,abM,abD,Bool.not_true]
theorem sP {c:List Int×Bool} {n:Nat} (h:(st n c).2=false):c.2=false∧n≤c.1.length∧(st n c).1.length=c.1.length - n:=by
 have o:dR c.1 c.2 n=true:=by
  have:(!dR c.1 c.2 n)=false:=h
  simpa using this
 obtain ⟨h1, -, h2⟩:=eu.1 o
 refine ⟨h1,by omega,?_⟩
 show (mP c.1 c.2 n).length=_
 rw [mP,if_pos o,abJ,abM]
theorem mcs (xs:List Int) (h:300≤xs.length):Cv xs=(xs.drop 4,false)∧mU xs=(xs.drop 12,false)∧Dx xs=(xs.drop 20,false)∧yB xs=(xs.drop 52,false)∧Dw xs=(xs.drop 132,false)∧Dv xs=(xs.drop 140,false)∧su xs=(xs.drop 172,false)∧tJ xs=(xs.drop 236,false)∧Tf xs=(xs.drop 300,false):=by
 have e1:Cv xs=(xs.drop 4,false):=by
  have:=kK xs 0 4 (by omega)
  rwa [abY] at this
 have e2:mU xs=(xs.drop 12,false):=by unfold mU;rw [e1];exact kK xs 4 8 (by omega)
 have e3:Dx xs=(xs.drop 20,false):=by unfold Dx;rw [e2];exact kK xs 12 8 (by omega)
 have e4:yB xs=(xs.drop 52,false):=by unfold yB;rw [e3];exact kK xs 20 32 (by omega)
 have e5:Dw xs=(xs.drop 132,false):=by unfold Dw;rw [e4];exact kK xs 52 80 (by omega)
 have e6:Dv xs=(xs.drop 140,false):=by unfold Dv;rw [e5];exact kK xs 132 8 (by omega)
 have e7:su xs=(xs.drop 172,false):=by unfold su;rw [e6];exact kK xs 140 32 (by omega)
 have e8:tJ xs=(xs.drop 236,false):=by unfold tJ;rw [e7];exact kK xs 172 64 (by omega)
 have e9:Tf xs=(xs.drop 300,false):=by unfold Tf;rw [e8];exact kK xs 236 64 (by omega)
 exact ⟨e1,e2,e3,e4,e5,e6,e7,e8,e9⟩
theorem Zz (xs:List Int):fE xs=decide (xs.length=300):=by
 by_cases h:300≤xs.length
 ·obtain ⟨-, -, -, -, -, -, -, -, e⟩:=mcs xs h
  have l:(xs.drop 300).length=xs.length - 300:=abJ
  unfold fE
  rw [e]
  show (!false && decide ((xs.drop 300).length=0))=_
  rw [l]
  by_cases h2:xs.length=300
  ·rw [decide_eq_true h2,decide_eq_true (show xs.length - 300=0 by omega)];rfl
  ·rw [decide_eq_false h2,decide_eq_false (show ¬ xs.length - 300=0 by omega)];rfl
 ·rw [decide_eq_false (by omega)]
  unfold fE
  cases hb:(Tf xs).2 with
  | true=>rfl
  | false =>
   exfalso
   obtain ⟨h8,l8,m9⟩:=sP (n:=64) (c:=tJ xs) hb
   obtain ⟨h7,l7,m8⟩:=sP (n:=64) (c:=su xs) h8
   obtain ⟨h6,l6,m7⟩:=sP (n:=32) (c:=Dv xs) h7
   obtain ⟨h5,l5,m6⟩:=sP (n:=8) (c:=Dw xs) h6
   obtain ⟨h4,l4,m5⟩:=sP (n:=80) (c:=yB xs) h5
   obtain ⟨h3,l3,m4⟩:=sP (n:=32) (c:=Dx xs) h4
   obtain ⟨h2,l2,m3⟩:=sP (n:=8) (c:=mU xs) h3
   obtain ⟨h1,l1,m2⟩:=sP (n:=8) (c:=Cv xs) h2
   obtain ⟨h0,l0,m1⟩:=sP (n:=4) (c:=(xs,false)) h1
   change (Cv xs).1.length=xs.length - 4 at m1
   change (mU xs).1.length=_ at m2
   change (Dx xs).1.length=_ at m3
   change (yB xs).1.length=_ at m4
   change (Dw xs).1.length=_ at m5
   change (Dv xs).1.length=_ at m6
   change (su xs).1.length=_ at m7
   change (tJ xs).1.length=_ at m8
   omega
theorem fOk_len {xs:List Int} (h:F5 xs=true):xs.length=300:=by
 unfold F5 at h
 simp only [Bool.and_eq_true,Zz,decide_eq_true_eq] at h
 exact h.1.1
theorem fOk_no {xs:List Int} (h:xs.length≠300):F5 xs=false:=by
 cases e:F5 xs with
 | false=>rfl
 | true=>exact absurd (fOk_len e) h
theorem mX (xs:List Int) (h:xs.length=300):fH xs=xs.take 4∧fv xs=mq (xs.drop 4) false∧fb xs=mq (xs.drop 12) false∧tY xs=(xs.drop 20).take 32∧fws xs=(xs.drop 52).take 80∧fi xs=mq (xs.drop 132) false∧sF xs=(xs.drop 140).take 32∧sG xs=(xs.drop 172).take 64∧sD xs=(xs.drop 236).take 64:=by
 obtain ⟨e1,e2,e3,e4,e5,e6,e7,e8, -⟩:=mcs xs (by omega)
 have o (a n:Nat) (k:a+n≤300):dR (xs.drop a) false n=true:=eu.2 ⟨rfl,by omega,by rw [abJ];omega⟩
 refine ⟨?_,by rw [fv,e1],by rw [fb,e2],?_,?_,by rw [fi,e5],?_,?_,?_⟩
 ·have:=o 0 4 (by omega)
  rw [abY] at this
  unfold fH bX
  exact if_pos this
 ·unfold tY jL
  rw [e3]
  exact if_pos (o 20 32 (by omega))
 ·unfold fws bX
  rw [e4]
  exact if_pos (o 52 80 (by omega))
 ·unfold sF jL
  rw [e6]
  exact if_pos (o 140 32 (by omega))
 ·unfold sG jL
  rw [e7]
  exact if_pos (o 172 64 (by omega))
 ·unfold sD jL
  rw [e8]
  exact if_pos (o 236 64 (by omega))
theorem drop_at {α:Type} {A B xs:List α} {n:Nat} (h:A.length=n) (e:xs=A ++ B):xs.drop n=B:=by rw [e,List.drop_left' h]
theorem JM {v b i:Int} {ro ws ks gs:List Int} (h1:ro.length=32) (h2:ks.length=32) (h3:gs.length=64) (h5:ws.length=80):(dW v b ro ws i ks gs).length=236:=by
 rw [dW,abE,abE,gG,abE,abE,gG,h1,h2,h3,h5]
 rfl
theorem Zy {v b i:Int} {ro ws ks gs ss:List Int} (h1:ro.length=32) (h2:ks.length=32) (h3:gs.length=64) (h4:ss.length=64) (h5:ws.length=80) (hm:iA v b 80 i=true) :
  F5 (dW v b ro ws i ks gs ++ ss)=true∧fv (dW v b ro ws i ks gs ++ ss)=v∧fb (dW v b ro ws i ks gs ++ ss)=b∧tY (dW v b ro ws i ks gs ++ ss)=ro∧fws (dW v b ro ws i ks gs ++ ss)=ws∧fi (dW v b ro ws i ks gs ++ ss)=i∧sF (dW v b ro ws i ks gs ++ ss)=ks∧sG (dW v b ro ws i ks gs ++ ss)=gs∧sD (dW v b ro ws i ks gs ++ ss)=ss:=by
 have hn:(0≤v∧v≤2147483647)∧(1≤b∧b≤32)∧(0≤i∧i≤2147483647):=by simpa [iA,xJ,and_assoc] using hm
 have hl:(dW v b ro ws i ks gs ++ ss).length=300:=by rw [abE,JM h1 h2 h3 h5,h4]
 have hx:dW v b ro ws i ks gs ++ ss=[80,67,77,49] ++ (jE v ++ (jE b ++ (ro ++ (ws ++ (jE i ++ (ks ++ (gs ++ ss))))))):=by
  simp [dW,iH]
 have hf:=mX _ hl
 have hE:fE (dW v b ro ws i ks gs ++ ss)=true:=by rw [Zz,hl];rfl
 unfold F5
 rw [hE]
 generalize dW v b ro ws i ks gs ++ ss=xs at hl hx hf ⊢
 have q:=iy
 have d4:xs.drop 4=jE v ++ (jE b ++ (ro ++ (ws ++ (jE i ++ (ks ++ (gs ++ ss)))))):=drop_at rfl hx
 have d12:xs.drop 12=jE b ++ (ro ++ (ws ++ (jE i ++ (ks ++ (gs ++ ss))))):=by
  rw [show xs.drop 12=(xs.drop 4).drop 8 by rw [abD]];exact drop_at (q v) d4
 have d20:xs.drop 20=ro ++ (ws ++ (jE i ++ (ks ++ (gs ++ ss)))):=by
  rw [show xs.drop 20=(xs.drop 12).drop 8 by rw [abD]];exact drop_at (q b) d12
 have d52:xs.drop 52=ws ++ (jE i ++ (ks ++ (gs ++ ss))):=by
  rw [show xs.drop 52=(xs.drop 20).drop 32 by rw [abD]];exact drop_at h1 d20
 have d132:xs.drop 132=jE i ++ (ks ++ (gs ++ ss)):=by
  rw [show xs.drop 132=(xs.drop 52).drop 80 by rw [abD]];exact drop_at h5 d52
 have d140:xs.drop 140=ks ++ (gs ++ ss):=by
  rw [show xs.drop 140=(xs.drop 132).drop 8 by rw [abD]];exact drop_at (q i) d132
 have d172:xs.drop 172=gs ++ ss:=by
  rw [show xs.drop 172=(xs.drop 140).drop 32 by rw [abD]];exact drop_at h2 d140
 have d236:xs.drop 236=ss:=by
  rw [show xs.drop 236=(xs.drop 172).drop 64 by rw [abD]];exact drop_at h3 d172
 obtain ⟨f1,f2,f3,f4,f5,f6,f7,f8,f9⟩:=hf
 rw [d4,Ai v hn.1.1 (by omega)] at f2
 rw [d12,Ai b (by omega) (by omega)] at f3
 rw [d20,abG h1] at f4
 rw [d52,abG h5] at f5
 rw [d132,Ai i hn.2.2.1 (by omega)] at f6
 rw [d140,abG h2] at f7
 rw [d172,abG h3] at f8
 rw [d236,abF (Nat.le_of_eq h4)] at f9
 have t4:xs.take 4=[80,67,77,49]:=by rw [hx];exact abG rfl
 rw [t4] at f1
 refine ⟨?_,f2,f3,f4,f5,f6,f7,f8,f9⟩
 rw [f1,f2,f3,f5,f6,h5,hm]
 rfl
end Go.Proofs.YthdgbgleklkaiaaGreatDoor.Mf
