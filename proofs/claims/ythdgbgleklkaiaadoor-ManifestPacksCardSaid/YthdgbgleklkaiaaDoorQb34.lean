/- The document's SignManifest: The document's SameManifest of two manifests that are one: A manifest's bytes are read as that manifest, and no others are. Condition: as each theorem says. -/

import Derived.Test.YthdgbgleklkaiaaDoorQb27
import Derived.Test.YthdgbgleklkaiaaDoorQb29
import Derived.Test.YthdgbgleklkaiaaDoorQb32
import Derived.Test.YthdgbgleklkaiaaDoorQb33
open Go.Lib renaming hid→acD
open List renaming length_append→acE,drop_drop→acG,take_left'→acH,length_drop→acI,map_cons→acJ,map_nil→acK,drop_zero→acO
open Nat renaming lt_of_lt_of_le→acF
open Int renaming toNat_natCast→acN
set_option linter.unusedSimpArgs false
set_option linter.unusedVariables false
set_option maxRecDepth 100000
set_option maxHeartbeats 16000000
namespace Go.Proofs.YthdgbgleklkaiaaDoor.Mf
open Go.RowKit Lm Fp Cu Sl Sc Ce
theorem Km {sd ro ks gs ss ws:List Int} (seed:Nat) (v b i:Int) (sw:Option Addr) (nw cw:Nat) (w:World) (hsd:Nv sd seed) (h1:ro.length=32) (h2:ks.length=32) (h3:gs.length=64) (h4:ss.length=64) (hws:Src w sw nw ws) (b1:bytes ro) (b2:bytes ks) (b3:bytes gs) (b4:bytes ws) (hT:Nr w) :
  Calls Tryd.prog 37 #[.agg (arr .u8 sd), .agg (aZ v b ro (.slice sw nw cw) i ks gs ss)] w fun e w'=>∃ M E,e = .returned (.tuple #[.agg M, .int .i64 E])∧((gq v b nw i=true∧E=0∧∃ s c,M=aZ v b ro (.slice s nw c) i ks gs (kJ seed (bV v b ro ws i ks gs))∧aU w' w.heap.size (.slice s nw c) ws)∨(gq v b nw i=false∧E=1∧M=iI))∧Below w.heap.size w w':=by
 have hwl:=hws.len
 have CS:=fun (u:World) (k:Src u sw nw ws)=>qJ (ks:=ks) (gs:=gs) (ss:=ss) v b i sw nw cw u h1 h2 h3 h4 k
 have yD:=bK (v:=v) (b:=b) (i:=i) (wv := .slice sw nw cw) h1 h2 h3 h4
 have Uu:=iq (v:=v) (b:=b) (i:=i) (ks:=ks) (gs:=gs) (ss:=ss) (wv := .slice sw nw cw) h1
 have hbb:bytes (bV v b ro ws i ks gs):=by
  unfold bV
  intro x hx
  rcases List.mem_append.1 hx with hx|hx
  ·rcases List.mem_append.1 hx with hx|hx
   ·refine jW ?_ x hx
    intro y hy
    rcases List.mem_append.1 hy with hy|hy
    ·rcases List.mem_append.1 hy with hy|hy
     ·exact jW (by unfold bytes;decide) y hy
     ·exact b1 y hy
    ·exact b4 y hy
   ·exact b2 x hx
  ·exact b3 x hx
 have hset:∀ x:Value,(aZ v b ro (.slice sw nw cw) i ks gs ss).setIfInBounds 34 x=aZ v b ro x i ks gs ss:=fun x=>lH h1 x
 have hput:∀ (x:Value) (g2:List Int),g2.length=64→((aZ v b ro x i ks gs ss).toList.take 132 ++ (arr .u8 g2).toList ++ (aZ v b ro x i ks gs ss).toList.drop (132+(arr .u8 g2).size)).toArray=aZ v b ro x i ks gs g2:=fun x g2 hg=>xA h1 h2 h3 h4 hg
 have hsz2:∀ (x:Value) (g2:List Int),g2.length=64→(aZ v b ro x i ks gs g2).size=196:=fun x g2 hg=>bK h1 h2 h3 hg
 obtain ⟨M,hM⟩:∃ M,M=aZ v b ro (.slice sw nw cw) i ks gs ss:=⟨_,rfl⟩
 rw [← hM] at CS yD Uu hset ⊢
 obtain ⟨mz,hmz⟩:∃ m,m=iI:=⟨_,rfl⟩
 rw [← hmz]
 have HZM:Hid (mz.size=196):=acD (by rw [hmz];exact bK rfl rfl rfl rfl)
 have HZO:Hid (mz.all (·.oneCell')=true):=acD (by rw [hmz];exact jo rfl)
 have HZI:Hid ((Tryd.prog.info? 30).map (·.size)=some mz.size):=acD (by rw [HZM.out];exact eD)
 have HZ:Hid (∀ w,(zeroValue 30).run Tryd.prog w = .ok (.agg mz) w):=acD (by rw [hmz];exact mI)
 have HZ0:Hid (∀ w,(Instr.build 30 #[]).run Tryd.prog w = .ok (.agg mz) w):=acD (by rw [hmz];exact Ba)
 have Cy:Hid ((Tryd.prog.info? 30).map (·.size)=some M.size):=acD (by rw [yD];exact eD)
 have HSL:=acD hsd.len
 have hb0:=(((Below.refl _ w).alloc (Nat.le_refl _) (.cells (arr .u8 sd) 23)).alloc (by simp) (.cells M 30)).alloc (by simp;omega) (.cells mz 30)
 have HG0:Hid ((((w.alloc (.cells (arr .u8 sd) 23)).alloc (.cells M 30)).alloc (.cells mz 30)).heap[w.heap.size]? = some (.cells (arr .u8 sd) 23 (0,0))):=acD (aY (aY (aG w _) _) _)
 have qH:Hid ((((w.alloc (.cells (arr .u8 sd) 23)).alloc (.cells M 30)).alloc (.cells mz 30)).heap[w.heap.size+1]? = some (.cells M 30 (0,0))):=acD (by have:=aY (aG (w.alloc (.cells (arr .u8 sd) 23)) (.cells M 30)) (.cells mz 30);rwa [World.size_alloc] at this)
 have HG2:Hid ((((w.alloc (.cells (arr .u8 sd) 23)).alloc (.cells M 30)).alloc (.cells mz 30)).heap[w.heap.size+1+1]? = some (.cells mz 30 (0,0))):=acD (by have:=aG ((w.alloc (.cells (arr .u8 sd) 23)).alloc (.cells M 30)) (.cells mz 30);rwa [World.size_alloc,World.size_alloc] at this)
 have HB:=acD hb0
 have Ej:=acD (hws.below hb0)
 have kK:Hid (w.heap.size+1+1 < (((w.alloc (.cells (arr .u8 sd) 23)).alloc (.cells M 30)).alloc (.cells mz 30)).heap.size):=acD (by simp)
 cases hm:gq v b nw i with
 | false =>
  rw [hm] at CS
  have Da:=acD CS
  clear hwl CS yD Uu hbb hset hput hsz2 hM hmz hb0 hsd h1 h2 h3 h4 hws b1 b2 b3 b4 hT hm
  simp only [Bool.false_eq_true,false_and,false_or,true_and]
  go_enter Tryd.func37, Tryd.ntmps37
  go_upto_region 1 with ((with_reducible refine aS 4 ?_);refine aj rfl 30 rfl _ (HZ.out _) ?_)
  (try simp only [World.size_alloc,Act.put,sA,sZ,sS])
  generalize (((w.alloc (.cells (arr .u8 sd) 23)).alloc (.cells M 30)).alloc (.cells mz 30))=wb at HG0 qH HG2 HB Ej kK ⊢
  go_wp2_with (first|((with_reducible refine aS 9 ?_);refine wpList_load_row rfl 30 _ rfl (w.heap.size+1) rfl 30 _ (0,0) _ qH.out Tryd.underlying30 rfl Cy.out ?_)|((with_reducible show Calls _ 12 _ _ _);go_at_call 12; refine (Da.out _ Ej.out).mono ?_;rintro e w1 ⟨v1,rfl,ho,hb1⟩;have HB1:=acD hb1;have HR1:=acD (Below.blk hb1 HG2.out kK.out);clear ho hb1)|((with_reducible refine aS 15 ?_);refine wpList_build (by rfl) 30 _ rfl #[] rfl _ (HZ0.out _) ?_)|((with_reducible refine aT 4 ?_);refine ah rfl 30 _ _ rfl (w.heap.size+1+1) _ _ 30 HR1.out rfl rfl rfl HZI.out HZO.out ?_;intro w2 hb hk hz;have HB2:=acD hb;have yU:=acD hk;clear hb hk hz))
  all_goals (try simp only [Exit.then])
  refine bodyPost_ret (aV rfl _ _ (w.heap.size+1+1) 30 _ (0,0) _ _ rfl HB2.out Tryd.underlying30 rfl HZI.out rfl) rfl ?_
  exact ⟨_,_,rfl,⟨rfl,rfl⟩,HB.out.trans ⟨yU.out.os.trans HB1.out.os,yU.out.tape.trans HB1.out.tape,yU.out.output.trans HB1.out.output,Nat.le_trans HB1.out.size yU.out.size,fun k hk=>(yU.out.block k (acF (acF hk HB.out.size) HB1.out.size) (fun e=>by have e:k=w.heap.size+1+1:=e;omega)).trans (HB1.out.block k (acF hk HB.out.size))⟩⟩
 | true =>
  obtain rfl:nw=80:=by
   simp only [gq,Bool.and_eq_true,decide_eq_true_eq] at hm
   exact hm.1.2
  rw [hm] at CS
  have hbl:(bV v b ro ws i ks gs).length=236:=by
   rw [bV,acE,acE,dO,acE,acE,dO,h1,h2,h3,hwl]
   rfl
  have hsg:=fun (u:World) (s:Option Addr) (c:Nat) (k:Src u s 236 (bV v b ro ws i ks gs)) (kc:236≤c) (t:Nr u)=>Rd.Dq seed s 236 c u k kc hbb (by decide) t.d t.x t.y t.q t.k
  rw [show n32 seed=sd by rw [n32,← hsd.1]] at hsg
  have hgl:(kJ seed (bV v b ro ws i ks gs)).length=64:=gV _ _
  have Uh:=acD (fun (u:World) (k:Below w.heap.size w u)=>Nr.below hT k)
  generalize kJ seed (bV v b ro ws i ks gs)=sg at hsg hgl ⊢
  generalize bV v b ro ws i ks gs=T at CS hbl hsg
  have Da:=acD CS
  have q8:=acD hbl
  have HSG:=acD hsg
  have Ur:=acD hgl
  have qG:=acD Uu
  have HSET:=acD hset
  have HPUT:Hid (∀ x:Value,((aZ v b ro x i ks gs ss).toList.take 132 ++ (arr .u8 sg).toList ++ (aZ v b ro x i ks gs ss).toList.drop (132+(arr .u8 sg).size)).toArray=aZ v b ro x i ks gs sg):=acD (fun x=>hput x sg hgl)
  have FZ:Hid (∀ x:Value,132+(arr .u8 sg).size≤(aZ v b ro x i ks gs ss).size):=acD (fun x=>by rw [aD,hgl,hsz2 x ss h4];omega)
  have GU:Hid (∀ x:Value,(Tryd.prog.info? 30).map (·.size)=some (aZ v b ro x i ks gs sg).size):=acD (fun x=>by rw [hsz2 x sg hgl];exact eD)
  have HFS:Hid (∀ x:Value,(aZ v b ro x i ks gs sg).size=mz.size):=acD (fun x=>by rw [hsz2 x sg hgl,HZM.out])
  have HFO:Hid (∀ s c,(aZ v b ro (.slice s 80 c) i ks gs sg).all (·.oneCell')=true):=acD (fun s c=>jo rfl)
  have rE:=acD hwl
  clear hwl CS yD Uu hbb hset hput hsz2 hM hmz hb0 hsd h1 h2 h3 h4 hws b1 b2 b3 b4 hT hm hbl hsg hgl
  simp only [Bool.true_eq_false,false_and,or_false,true_and]
  go_enter Tryd.func37, Tryd.ntmps37
  go_upto_region 1 with ((with_reducible refine aS 4 ?_);refine aj rfl 30 rfl _ (HZ.out _) ?_)
  (try simp only [World.size_alloc,Act.put,sA,sZ,sS])
  generalize (((w.alloc (.cells (arr .u8 sd) 23)).alloc (.cells M 30)).alloc (.cells mz 30))=wb at HG0 qH HG2 HB Ej kK ⊢
  go_upto_region 5 with (first|((with_reducible refine aS 9 ?_);refine wpList_load_row rfl 30 _ rfl (w.heap.size+1) rfl 30 _ (0,0) _ qH.out Tryd.underlying30 rfl Cy.out ?_)|((with_reducible show Calls _ 12 _ _ _);go_at_call 12; refine (Da.out _ Ej.out).mono ?_;rintro e w1 ⟨v1,rfl,ho,hb1⟩;have HV1:Hid (aU w1 wb.heap.size v1 T):=acD ho;have HB1:=acD hb1;have HSW1:=acD (Ej.out.below hb1);have tQ:w1.cell? ⟨w.heap.size+1,34,none⟩=some (.slice sw 80 cw):=(by rw [aF (Below.blk hb1 qH.out (aO qH.out))];exact qG.out);clear ho hb1)|((with_reducible refine aS 19 ?_);refine aR rfl (.const (.slice none 0 0)) (.tmp 18) rfl wb.heap.size (.slice none 0 0) [] rfl (aU.nil _ _) sw 80 cw ws rfl HSW1.out (by decide) HB1.out.size ?_;intro v2 w2 how hgr _ _;have hab:=aQ (aU.nil _ _) hgr (Below.refl w1.heap.size w1) (Nat.le_refl _);have HB2:=acD (HB1.out.trans (hab.mono HB1.out.size));have Br:Hid (aU w2 wb.heap.size v2 ws):=acD how;have HV2:=acD (HV1.out.below hab);have GN:=acD (Below.blk HB2.out qH.out (aO qH.out));have cc2:w2.cell? ⟨w.heap.size+1,34,none⟩=some (.slice sw 80 cw):=(by rw [aF GN.out];exact qG.out);have cc3:w2.frozen? ⟨w.heap.size+1,34,none⟩=false:=aC GN.out 34;obtain ⟨s2,c2,hv2, -⟩:=Br.out.form;rw [rE.out] at hv2;subst hv2;clear tQ how hgr hab))
  obtain ⟨w3,hw⟩:∃ x,x=w2.setCell ⟨w.heap.size+1,34,none⟩ (.slice s2 80 c2):=⟨_,rfl⟩
  rw [← hw]
  have HM3:Hid (w3.heap[w.heap.size+1]? = some (.cells (aZ v b ro (.slice s2 80 c2) i ks gs ss) 30 (0,0))):=acD (by rw [hw,bq GN.out,HSET.out])
  have hk3:Kept (fun x=>x=w.heap.size+1) w2 w3:=by rw [hw];exact (Kept.refl _ _).at _ _
  have JZ:=acD hk3
  have yR:=acD (hk3.blk (Below.blk HB2.out HG0.out (by have:=kK.out;omega)) (by omega))
  have HR3:=acD (hk3.blk (Below.blk HB2.out HG2.out kK.out) (by omega))
  have HO3:=acD (Br.out.kept hk3 (fun k e he=>by have:=Br.out.lt k e;have:=kK.out;omega))
  have HV3:=acD (HV2.out.kept hk3 (fun k e he=>by have:=HV2.out.lt k e;have:=kK.out;omega))
  obtain ⟨sv,cv,hvv,kcv, -, hsv, -⟩:=HV3.out.form
  rw [q8.out] at hvv hsv kcv
  subst hvv
  have HSV:=acD hsv
  have HCV:=acD kcv
  have HB3:Hid (Below w.heap.size w w3):=acD (HB.out.trans ⟨hk3.os.trans HB2.out.os,hk3.tape.trans HB2.out.tape,hk3.output.trans HB2.out.output,Nat.le_trans HB2.out.size hk3.size,fun k hk=>(hk3.block k (acF (acF hk HB.out.size) HB2.out.size) (fun e=>by have e:k=w.heap.size+1:=e;omega)).trans (HB2.out.block k (acF hk HB.out.size))⟩)
  clear hw cc2 cc3 hk3 hsv kcv Br GN HV2 HV3
  go_wp2_with (first|((with_reducible refine aS 21 ?_);refine ak rfl 23 _ rfl (w.heap.size) 0 _ 23 (0,0) _ yR.out rfl .u8 sd (au _ _) Tryd.underlying23 rfl (Sl.bU HSL.out) ?_)|((with_reducible show Calls _ 46 _ _ _);go_at_call 46; refine (HSG.out _ _ _ HSV.out HCV.out (Uh.out _ HB3.out)).mono ?_;rintro e w4 ⟨rfl,hb4⟩;have HM4:=acD (Below.blk hb4 HM3.out (aO HM3.out));have HR4:=acD (Below.blk hb4 HR3.out (aO HR3.out));have UD:=acD (HO3.out.below hb4);have HB4:=acD (HB3.out.trans (hb4.mono HB3.out.size));clear hb4)|((with_reducible refine aT 24 ?_);refine bA rfl 26 _ _ rfl (w.heap.size+1) 132 _ (arr .u8 sg) 30 HM4.out rfl rfl (FZ.out _) (Sl.lD Ur.out) (av _ _) ?_;intro w5 hb hk hz;rw [HPUT.out] at hb;have HM5:=acD hb;have Bl:=acD (hk.blk HR4.out (by omega));have JY:=acD (UD.out.kept hk (fun k e he=>by have:=UD.out.lt k e;have:=kK.out;omega));have fM:Hid (Below w.heap.size w w5):=acD (HB4.out.trans ⟨hk.os,hk.tape,hk.output,hk.size,fun k hk2=>hk.block k (acF hk2 HB4.out.size) (fun e=>by have e:k=w.heap.size+1:=e;omega)⟩);clear hb hk hz)|((with_reducible refine aS 25 ?_);refine wpList_load_row rfl 30 _ rfl (w.heap.size+1) rfl 30 _ (0,0) _ HM5.out Tryd.underlying30 rfl (GU.out _) ?_)|((with_reducible refine aT 4 ?_);refine ah rfl 30 _ _ rfl (w.heap.size+1+1) _ _ 30 Bl.out rfl rfl (HFS.out _) (GU.out _) (HFO.out _ _) ?_;intro w6 hb hk hz;have ko:=acD hb;have HK6:=acD hk;clear hb hk hz))
  all_goals (try simp only [Exit.then])
  refine bodyPost_ret (aV rfl _ _ (w.heap.size+1+1) 30 _ (0,0) _ _ rfl ko.out Tryd.underlying30 rfl (GU.out _) rfl) rfl ?_
  exact ⟨_,_,rfl,⟨rfl,s2,c2,rfl,(JY.out.kept HK6.out (fun k e he=>by have:=JY.out.lt k e;have:=kK.out;omega)).mono HB.out.size⟩,fM.out.trans ⟨HK6.out.os,HK6.out.tape,HK6.out.output,HK6.out.size,fun k hk=>HK6.out.block k (acF hk fM.out.size) (fun e=>by have e:k=w.heap.size+1+1:=e;omega)⟩⟩
end Go.Proofs.YthdgbgleklkaiaaDoor.Mf
namespace Go.Proofs.YthdgbgleklkaiaaDoor.Mf
open Go.RowKit Lm Fp Cu Sl Sc Ce
theorem DC {v b i:Int} {ro ks gs ss:List Int} {wv:Value} (h1:ro.length=32):∀ j x,(dn i ks gs).toList[j]? = some x→(aZ v b ro wv i ks gs ss)[35+j]? = some x:=by
 intro j x h
 have e:(aZ v b ro wv i ks gs ss).toList=(.int .i64 v :: .int .i64 b :: (ro.map (Value.int .u8) ++ [wv])) ++ ((dn i ks gs).toList ++ ss.map (Value.int .u8)):=by
  rw [bP]
  simp [dn,arr]
 have hl:(Value.int .i64 v :: Value.int .i64 b :: (ro.map (Value.int .u8) ++ [wv])).length=35:=by simp [h1]
 rw [qd e,List.getElem?_append_right (by omega),hl,Nat.add_sub_cancel_left,List.getElem?_append_left]
 ·exact h
 ·exact (List.getElem?_eq_some_iff.1 h).1
theorem abA : Tryd.prog.eqGuardType Tryd.prog.depth 23 = false:=by kernel_rfl
theorem eg_sig : Tryd.prog.eqGuardType Tryd.prog.depth 26 = false:=by kernel_rfl
theorem Qq (H:List Int) (hl:H.length=32) (w:World):(Op.equalIn 10000 23 (.agg (arr .u8 H)) (.agg (arr .u8 H))).run Tryd.prog w = .ok true w:=by
 have:=fO (P := Tryd.prog) w 9998 23 5 32 .u8 .u8 Tryd.underlying23 Tryd.underlying5 (fun w=>by kernel_rfl) H H hl hl
 rwa [beq_self_eq_true] at this
theorem eqn_sig (H:List Int) (hl:H.length=64) (w:World):(Op.equalIn 10000 26 (.agg (arr .u8 H)) (.agg (arr .u8 H))).run Tryd.prog w = .ok true w:=by
 have:=fO (P := Tryd.prog) w 9998 26 5 64 .u8 .u8 Tryd.underlying26 Tryd.underlying5 (fun w=>by kernel_rfl) H H hl hl
 rwa [beq_self_eq_true] at this
theorem Je {o:Oper} {ρ:Operand→Value} {ty:TypeId} {x y:Operand} {n:Int} (ho:o.op = .binOp .eql 3 x y ty) (e:[x,y].map ρ=[.int .i64 n, .int .i64 n]) (u:World):(execOp ρ o).run Tryd.prog u = .ok (.value (.bool true)) u:=by
 simp only [acJ,acK,List.cons.injEq,and_true] at e
 have hq:(n == n)=true:=beq_self_eq_true n
 simp only [execOp,ho,e.1,e.2]
 go_simp
theorem aaX {o:Oper} {ρ:Operand→Value} {ty:TypeId} {x y:Operand} {S:ByteArray} (ho:o.op = .binOp .eql 9 x y ty) (e:[x,y].map ρ=[.string S, .string S]) (h:(S.toList == S.toList)=true) (u:World):(execOp ρ o).run Tryd.prog u = .ok (.value (.bool true)) u:=by
 simp only [acJ,acK,List.cons.injEq,and_true] at e
 simp only [execOp,ho,e.1,e.2]
 go_simp
theorem DY {o:Oper} {ρ:Operand→Value} {x:Operand} {sa:Option Addr} {n c:Nat} {u:World} {T:List Int} {S:ByteArray} (ho:o.op = .convert 24 9 x) (e:[x].map ρ=[.slice sa n c]) (h:Src u sa n T) (hS:strOfNums T=S):(execOp ρ o).run Tryd.prog u = .ok (.value (.string S)) u:=by
 simp only [acJ,acK,List.cons.injEq,and_true] at e
 have hc:=lu (c:=c) h
 rw [hS] at hc
 simp only [execOp,ho,e]
 exact Qv hc
theorem pJ {ro ks gs ss ws:List Int} (v b i:Int) (s1 s2:Option Addr) (n c1 c2:Nat) (w:World) (h1:ro.length=32) (h2:ks.length=32) (h3:gs.length=64) (h4:ss.length=64) (hs1:Src w s1 n ws) (hs2:Src w s2 n ws) :
  Calls Tryd.prog 9 #[.agg (aZ v b ro (.slice s1 n c1) i ks gs ss), .agg (aZ v b ro (.slice s2 n c2) i ks gs ss)] w fun e w'=>e = .returned (.bool true)∧Below w.heap.size w w':=by
 have HA1:=acD hs1
 have HA2:=acD hs2
 have iG:=acD h1
 have HSL:=acD h4
 have H10:=acD (rW (v:=v) (b:=b) (i:=i) (ro:=ro) (ks:=ks) (gs:=gs) (ss:=ss) (wv := .slice s1 n c1))
 have H11:=acD (lI (v:=v) (b:=b) (i:=i) (ro:=ro) (ks:=ks) (gs:=gs) (ss:=ss) (wv := .slice s1 n c1))
 have H12:=acD (yF (v:=v) (b:=b) (i:=i) (ro:=ro) (ks:=ks) (gs:=gs) (ss:=ss) (wv := .slice s1 n c1))
 have H134:=acD (iq (v:=v) (b:=b) (i:=i) (ks:=ks) (gs:=gs) (ss:=ss) (wv := .slice s1 n c1) h1)
 have H135:=acD (DC (v:=v) (b:=b) (i:=i) (ks:=ks) (gs:=gs) (ss:=ss) (wv := .slice s1 n c1) h1)
 have H1132:=acD (uw (v:=v) (b:=b) (i:=i) (ss:=ss) (wv := .slice s1 n c1) h1 h2 h3)
 have H20:=acD (rW (v:=v) (b:=b) (i:=i) (ro:=ro) (ks:=ks) (gs:=gs) (ss:=ss) (wv := .slice s2 n c2))
 have H21:=acD (lI (v:=v) (b:=b) (i:=i) (ro:=ro) (ks:=ks) (gs:=gs) (ss:=ss) (wv := .slice s2 n c2))
 have H22:=acD (yF (v:=v) (b:=b) (i:=i) (ro:=ro) (ks:=ks) (gs:=gs) (ss:=ss) (wv := .slice s2 n c2))
 have H234:=acD (iq (v:=v) (b:=b) (i:=i) (ks:=ks) (gs:=gs) (ss:=ss) (wv := .slice s2 n c2) h1)
 have H235:=acD (DC (v:=v) (b:=b) (i:=i) (ks:=ks) (gs:=gs) (ss:=ss) (wv := .slice s2 n c2) h1)
 have H2132:=acD (uw (v:=v) (b:=b) (i:=i) (ss:=ss) (wv := .slice s2 n c2) h1 h2 h3)
 have HCI:Hid ((Tryd.prog.info? 28).map (·.size)=some (dn i ks gs).size):=acD (by rw [jJ h3 h2];exact kX)
 have HEN:=acD (fun w=>Qq ro h1 w)
 have HES:=acD (fun w=>eqn_sig ss h4 w)
 have HEC:=acD (fun w=>eq_cert i ks gs h2 h3 w)
 obtain ⟨S,hS⟩:∃ S,S=strOfNums ws:=⟨_,rfl⟩
 have HST:=acD hS.symm
 have HSQ:Hid ((S.toList == S.toList)=true):=acD (beq_self_eq_true _)
 generalize dn i ks gs=CC at H135 H235 HCI HEC
 generalize aZ v b ro (.slice s1 n c1) i ks gs ss=M1 at H10 H11 H12 H134 H135 H1132 ⊢
 generalize aZ v b ro (.slice s2 n c2) i ks gs ss=M2 at H20 H21 H22 H234 H235 H2132 ⊢
 have bQ:=acD (bM.two w M1 M2 30 30)
 clear h1 h2 h3 h4 hs1 hs2 hS
 go_enter Tryd.func9, Tryd.ntmps9
 go_upto_region 1 with fail
 (try simp only [World.size_alloc,Act.put,sA,sZ,sS])
 generalize ((w.alloc (.cells M1 30)).alloc (.cells M2 30))=wb at bQ ⊢
 refine o9 (T:=fun _=>False) (w:=w) (sy:=[Yp (w.heap.size) 0,Yv (.int .i64 v),Yp (w.heap.size+1) 0,Yv (.int .i64 v),Yv (.bool true),Yv (.bool true),Yp (w.heap.size) 1,Yv (.int .i64 b),Yp (w.heap.size+1) 1,Yv (.int .i64 b),Yv (.bool true),Yv (.bool true),Yv (.bool true),Yp (w.heap.size) 2,Yr .u8 ro,Yp (w.heap.size+1) 2,Yr .u8 ro,Yv (.bool true),Yv (.bool true),Yv (.bool true),Yp (w.heap.size) 34,Yv (.slice s1 n c1),Yv (.string S),Yp (w.heap.size+1) 34,Yv (.slice s2 n c2),Yv (.string S),Yv (.bool true),Yv (.bool true),Yv (.bool true),Yp (w.heap.size) 35,Yv (.agg CC),Yp (w.heap.size+1) 35,Yv (.agg CC),Yv (.bool true),Yv (.bool true),Yv (.bool true),Yp (w.heap.size) 132,Yr .u8 ss,Yp (w.heap.size+1) 132,Yr .u8 ss,Yv (.bool true),Yv (.bool true),Yv (.bool true)]) (pt:=[]) (by kernel_rfl) (by kernel_rfl) bQ.out.holds (fun hW=>?s1) (fun q1 x1 u1 _ hH=>?e1)
 case s1 =>
  refine jD hW ?_
  refine Jv hW ?_ 0 0 M1 30 H10.out (d:=_) rfl Tryd.underlying3
  refine jD hW ?_
  refine Jv hW ?_ 1 0 M2 30 H20.out (d:=_) rfl Tryd.underlying3
  refine SyX hW ?_ [.tmp 6, .tmp 8] [.int .i64 v, .int .i64 v] (fun ρ u _ e=>Je rfl e u)
  refine jD hW ?_
  refine o8 (jD hW ?_)
  refine o8 (Jv hW ?_ 0 1 M1 30 H11.out (d:=_) rfl Tryd.underlying3)
  refine o8 (jD hW ?_)
  refine o8 (Jv hW ?_ 1 1 M2 30 H21.out (d:=_) rfl Tryd.underlying3)
  refine o8 (SyX hW ?_ [.tmp 12, .tmp 14] [.int .i64 b, .int .i64 b] (fun ρ u _ e=>Je rfl e u))
  refine jD hW ?_
  refine jD hW ?_
  refine o8 (jD hW ?_)
  refine o8 (vY hW ?_ 0 2 M1 30 Kn iG.out H12.out)
  refine o8 (jD hW ?_)
  refine o8 (vY hW ?_ 1 2 M2 30 Kn iG.out H22.out)
  refine o8 (SyX hW ?_ [.tmp 19, .tmp 21] [.agg (arr .u8 ro), .agg (arr .u8 ro)] (fun ρ u _ e=>qV rfl abA e HEN.out u))
  refine jD hW ?_
  refine jD hW ?_
  refine o8 (jD hW ?_)
  refine o8 (Jv hW ?_ 0 34 M1 30 H134.out (d:=_) rfl Tryd.underlying24)
  refine o8 (SyX hW ?_ [.tmp 26] [.slice s1 n c1] (fun ρ u k e=>DY rfl e (HA1.out.kept k (fun _ _ => .inr id)) HST.out))
  refine o8 (jD hW ?_)
  refine o8 (Jv hW ?_ 1 34 M2 30 H234.out (d:=_) rfl Tryd.underlying24)
  refine o8 (SyX hW ?_ [.tmp 29] [.slice s2 n c2] (fun ρ u k e=>DY rfl e (HA2.out.kept k (fun _ _ => .inr id)) HST.out))
  refine o8 (SyX hW ?_ [.tmp 27, .tmp 30] [.string S, .string S] (fun ρ u _ e=>aaX rfl e HSQ.out u))
  refine jD hW ?_
  refine jD hW ?_
  refine o8 (jD hW ?_)
  refine o8 (SyLa hW ?_ 0 35 M1 30 H135.out Tryd.underlying28 rfl HCI.out)
  refine o8 (jD hW ?_)
  refine o8 (SyLa hW ?_ 1 35 M2 30 H235.out Tryd.underlying28 rfl HCI.out)
  refine o8 (SyX hW ?_ [.tmp 35, .tmp 37] [.agg CC, .agg CC] (fun ρ u _ e=>qV rfl eg_cert e HEC.out u))
  refine jD hW ?_
  refine jD hW ?_
  refine o8 (jD hW ?_)
  refine o8 (vY hW ?_ 0 132 M1 30 rowS HSL.out H1132.out)
  refine o8 (jD hW ?_)
  refine o8 (vY hW ?_ 1 132 M2 30 rowS HSL.out H2132.out)
  refine o8 (SyX hW ?_ [.tmp 42, .tmp 44] [.agg (arr .u8 ss), .agg (arr .u8 ss)] (fun ρ u _ e=>qV rfl eg_sig e HES.out u))
  refine jD hW ?_
  refine jD hW ?_
  exact SyN
 case e1 =>
  have HB1:=acD (hH.blk [0,1] [(w.heap.size,M1, 30),(w.heap.size+1,M2, 30)] (by decide) (by kernel_rfl))
  simp only [lay,Sy.at,CV,Yr,Yv,Yp,Yq,Yn,Y0,Yw,Act.put,sA,sZ,sS,Nat.reduceAdd]
  clear hH bQ
  (try simp only [Exit.then])
  go_wp2_with fail
  go_ret
  exact ⟨rfl,HB1.out.below⟩
end Go.Proofs.YthdgbgleklkaiaaDoor.Mf
namespace Go.Proofs.YthdgbgleklkaiaaDoor.Mf
open Go.RowKit Lm Fp Cu Sl Sc Ce
theorem kN (xs:List Int) (a n:Nat) (h:a+n≤xs.length):st n (xs.drop a,false)=(xs.drop (a+n),false):=by
 have o:jT (xs.drop a) false n=true:=je.2 ⟨rfl,by omega,by rw [acI];omega⟩
 unfold st
 simp only [oO,o,if_true,acN,acG,Bool.not_true]
theorem uf {c:List Int×Bool} {n:Nat} (h:(st n c).2=false):c.2=false∧n≤c.1.length∧(st n c).1.length=c.1.length - n:=by
 have o:jT c.1 c.2 n=true:=by
  have:(!jT c.1 c.2 n)=false:=h
  simpa using this
 obtain ⟨h1, -, h2⟩:=je.1 o
 refine ⟨h1,by omega,?_⟩
 show (oO c.1 c.2 n).length=_
 rw [oO,if_pos o,acI,acN]
theorem mcs (xs:List Int) (h:300≤xs.length):Ir xs=(xs.drop 4,false)∧oQ xs=(xs.drop 12,false)∧JQ xs=(xs.drop 20,false)∧JO xs=(xs.drop 52,false)∧JN xs=(xs.drop 132,false)∧JM xs=(xs.drop 140,false)∧JL xs=(xs.drop 172,false)∧KN xs=(xs.drop 236,false)∧mc9 xs=(xs.drop 300,false):=by
 have e1:Ir xs=(xs.drop 4,false):=by
  have:=kN xs 0 4 (by omega)
  rwa [acO] at this
 have e2:oQ xs=(xs.drop 12,false):=by unfold oQ;rw [e1];exact kN xs 4 8 (by omega)
 have e3:JQ xs=(xs.drop 20,false):=by unfold JQ;rw [e2];exact kN xs 12 8 (by omega)
 have e4:JO xs=(xs.drop 52,false):=by unfold JO;rw [e3];exact kN xs 20 32 (by omega)
 have e5:JN xs=(xs.drop 132,false):=by unfold JN;rw [e4];exact kN xs 52 80 (by omega)
 have e6:JM xs=(xs.drop 140,false):=by unfold JM;rw [e5];exact kN xs 132 8 (by omega)
 have e7:JL xs=(xs.drop 172,false):=by unfold JL;rw [e6];exact kN xs 140 32 (by omega)
 have e8:KN xs=(xs.drop 236,false):=by unfold KN;rw [e7];exact kN xs 172 64 (by omega)
 have e9:mc9 xs=(xs.drop 300,false):=by unfold mc9;rw [e8];exact kN xs 236 64 (by omega)
 exact ⟨e1,e2,e3,e4,e5,e6,e7,e8,e9⟩
theorem aaW (xs:List Int):fE xs=decide (xs.length=300):=by
 by_cases h:300≤xs.length
 ·obtain ⟨-, -, -, -, -, -, -, -, e⟩:=mcs xs h
  have l:(xs.drop 300).length=xs.length - 300:=acI
  unfold fE
  rw [e]
  show (!false && decide ((xs.drop 300).length=0))=_
  rw [l]
  by_cases h2:xs.length=300
  ·rw [decide_eq_true h2,decide_eq_true (show xs.length - 300=0 by omega)];rfl
  ·rw [decide_eq_false h2,decide_eq_false (show ¬ xs.length - 300=0 by omega)];rfl
 ·rw [decide_eq_false (by omega)]
  unfold fE
  cases hb:(mc9 xs).2 with
  | true=>rfl
  | false =>
   exfalso
   obtain ⟨h8,l8,m9⟩:=uf (n:=64) (c:=KN xs) hb
   obtain ⟨h7,l7,m8⟩:=uf (n:=64) (c:=JL xs) h8
   obtain ⟨h6,l6,m7⟩:=uf (n:=32) (c:=JM xs) h7
   obtain ⟨h5,l5,m6⟩:=uf (n:=8) (c:=JN xs) h6
   obtain ⟨h4,l4,m5⟩:=uf (n:=80) (c:=JO xs) h5
   obtain ⟨h3,l3,m4⟩:=uf (n:=32) (c:=JQ xs) h4
   obtain ⟨h2,l2,m3⟩:=uf (n:=8) (c:=oQ xs) h3
   obtain ⟨h1,l1,m2⟩:=uf (n:=8) (c:=Ir xs) h2
   obtain ⟨h0,l0,m1⟩:=uf (n:=4) (c:=(xs,false)) h1
   change (Ir xs).1.length=xs.length - 4 at m1
   change (oQ xs).1.length=_ at m2
   change (JQ xs).1.length=_ at m3
   change (JO xs).1.length=_ at m4
   change (JN xs).1.length=_ at m5
   change (JM xs).1.length=_ at m6
   change (JL xs).1.length=_ at m7
   change (KN xs).1.length=_ at m8
   omega
theorem fOk_len {xs:List Int} (h:Uv xs=true):xs.length=300:=by
 unfold Uv at h
 simp only [Bool.and_eq_true,aaW,decide_eq_true_eq] at h
 exact h.1.1
theorem fOk_no {xs:List Int} (h:xs.length≠300):Uv xs=false:=by
 cases e:Uv xs with
 | false=>rfl
 | true=>exact absurd (fOk_len e) h
theorem mX (xs:List Int) (h:xs.length=300):fH xs=xs.take 4∧fv xs=Ak (xs.drop 4) false∧fb xs=Ak (xs.drop 12) false∧JU xs=(xs.drop 20).take 32∧fws xs=(xs.drop 52).take 80∧fi xs=Ak (xs.drop 132) false∧Jb xs=(xs.drop 140).take 32∧Jc xs=(xs.drop 172).take 64∧I6 xs=(xs.drop 236).take 64:=by
 obtain ⟨e1,e2,e3,e4,e5,e6,e7,e8, -⟩:=mcs xs (by omega)
 have o (a n:Nat) (k:a+n≤300):jT (xs.drop a) false n=true:=je.2 ⟨rfl,by omega,by rw [acI];omega⟩
 refine ⟨?_,by rw [fv,e1],by rw [fb,e2],?_,?_,by rw [fi,e5],?_,?_,?_⟩
 ·have:=o 0 4 (by omega)
  rw [acO] at this
  unfold fH jy
  exact if_pos this
 ·unfold JU oP
  rw [e3]
  exact if_pos (o 20 32 (by omega))
 ·unfold fws jy
  rw [e4]
  exact if_pos (o 52 80 (by omega))
 ·unfold Jb oP
  rw [e6]
  exact if_pos (o 140 32 (by omega))
 ·unfold Jc oP
  rw [e7]
  exact if_pos (o 172 64 (by omega))
 ·unfold I6 oP
  rw [e8]
  exact if_pos (o 236 64 (by omega))
theorem drop_at {α:Type} {A B xs:List α} {n:Nat} (h:A.length=n) (e:xs=A ++ B):xs.drop n=B:=by rw [e,List.drop_left' h]
theorem qD {v b i:Int} {ro ws ks gs:List Int} (h1:ro.length=32) (h2:ks.length=32) (h3:gs.length=64) (h5:ws.length=80):(bV v b ro ws i ks gs).length=236:=by
 rw [bV,acE,acE,dO,acE,acE,dO,h1,h2,h3,h5]
 rfl
theorem Jd {v b i:Int} {ro ws ks gs ss:List Int} (h1:ro.length=32) (h2:ks.length=32) (h3:gs.length=64) (h4:ss.length=64) (h5:ws.length=80) (hm:gq v b 80 i=true) :
  Uv (bV v b ro ws i ks gs ++ ss)=true∧fv (bV v b ro ws i ks gs ++ ss)=v∧fb (bV v b ro ws i ks gs ++ ss)=b∧JU (bV v b ro ws i ks gs ++ ss)=ro∧fws (bV v b ro ws i ks gs ++ ss)=ws∧fi (bV v b ro ws i ks gs ++ ss)=i∧Jb (bV v b ro ws i ks gs ++ ss)=ks∧Jc (bV v b ro ws i ks gs ++ ss)=gs∧I6 (bV v b ro ws i ks gs ++ ss)=ss:=by
 have hn:(0≤v∧v≤2147483647)∧(1≤b∧b≤32)∧(0≤i∧i≤2147483647):=by simpa [gq,wZ,and_assoc] using hm
 have hl:(bV v b ro ws i ks gs ++ ss).length=300:=by rw [acE,qD h1 h2 h3 h5,h4]
 have hx:bV v b ro ws i ks gs ++ ss=[80,67,77,49] ++ (iV v ++ (iV b ++ (ro ++ (ws ++ (iV i ++ (ks ++ (gs ++ ss))))))):=by
  simp [bV,fq]
 have hf:=mX _ hl
 have hE:fE (bV v b ro ws i ks gs ++ ss)=true:=by rw [aaW,hl];rfl
 unfold Uv
 rw [hE]
 generalize bV v b ro ws i ks gs ++ ss=xs at hl hx hf ⊢
 have q:=fU
 have d4:xs.drop 4=iV v ++ (iV b ++ (ro ++ (ws ++ (iV i ++ (ks ++ (gs ++ ss)))))):=drop_at rfl hx
 have d12:xs.drop 12=iV b ++ (ro ++ (ws ++ (iV i ++ (ks ++ (gs ++ ss))))):=by
  rw [show xs.drop 12=(xs.drop 4).drop 8 by rw [acG]];exact drop_at (q v) d4
 have d20:xs.drop 20=ro ++ (ws ++ (iV i ++ (ks ++ (gs ++ ss)))):=by
  rw [show xs.drop 20=(xs.drop 12).drop 8 by rw [acG]];exact drop_at (q b) d12
 have d52:xs.drop 52=ws ++ (iV i ++ (ks ++ (gs ++ ss))):=by
  rw [show xs.drop 52=(xs.drop 20).drop 32 by rw [acG]];exact drop_at h1 d20
 have d132:xs.drop 132=iV i ++ (ks ++ (gs ++ ss)):=by
  rw [show xs.drop 132=(xs.drop 52).drop 80 by rw [acG]];exact drop_at h5 d52
 have d140:xs.drop 140=ks ++ (gs ++ ss):=by
  rw [show xs.drop 140=(xs.drop 132).drop 8 by rw [acG]];exact drop_at (q i) d132
 have d172:xs.drop 172=gs ++ ss:=by
  rw [show xs.drop 172=(xs.drop 140).drop 32 by rw [acG]];exact drop_at h2 d140
 have d236:xs.drop 236=ss:=by
  rw [show xs.drop 236=(xs.drop 172).drop 64 by rw [acG]];exact drop_at h3 d172
 obtain ⟨f1,f2,f3,f4,f5,f6,f7,f8,f9⟩:=hf
 rw [d4,Aj v hn.1.1 (by omega)] at f2
 rw [d12,Aj b (by omega) (by omega)] at f3
 rw [d20,acH h1] at f4
 rw [d52,acH h5] at f5
 rw [d132,Aj i hn.2.2.1 (by omega)] at f6
 rw [d140,acH h2] at f7
 rw [d172,acH h3] at f8
 rw [d236,List.take_of_length_le (Nat.le_of_eq h4)] at f9
 have t4:xs.take 4=[80,67,77,49]:=by rw [hx];exact acH rfl
 rw [t4] at f1
 refine ⟨?_,f2,f3,f4,f5,f6,f7,f8,f9⟩
 rw [f1,f2,f3,f5,f6,h5,hm]
 rfl
end Go.Proofs.YthdgbgleklkaiaaDoor.Mf
