/- The document's wrapping. Condition: as each theorem says. -/

import Derived.Test.YthdgbgleklkaiaaDoorQa36
set_option linter.unusedSimpArgs false
set_option linter.unusedVariables false
set_option maxRecDepth 100000
set_option maxHeartbeats 16000000
namespace Go.Proofs.YthdgbgleklkaiaaDoor.Wr
open Go.RowKit Lm Cu Sl
theorem qU {w:World} {ops:Array Oper} {o:Oper} {a:Act} {K:Act→World→Prop} {Q:Exit→Act→World→Prop} {E:Prop} (hgd:o.guard=none) (d s:Operand)
  (ho:o.op = .call { callee := .builtin .copy,args := #[d,s],argTypes := #[24, 24] }) (g m c n cs:Nat) (ad:Addr) (cur xs:List Int) (t:TypeId)
  (hd:a.eval d = .slice (some ⟨g,0,none⟩) m c) (hs:a.eval s = .slice (some ad) n cs) (hg:w.heap[g]? = some (.cells (arr .u8 cur) t (0,0))) (hsrc:Src w (some ad) n xs) (hnm:n≤m) (hfit:m≤cur.length)
  (h:∀ w',w'.heap[g]? = some (.cells (arr .u8 (xs ++ cur.drop n)) t (0,0))→Kept (fun x=>x=g) w w'→K (a.put o.dst (.int .i64 (n:Int))) w') :
  if Region.wanted o (yielded ops a.tmps)=true then Oper.wp Tryd.prog o a w K Q else E:=by
 rw [if_pos (by simp [Region.wanted,hgd])]
 have hl:=hsrc.len
 have hrun:=run_copy_row (P := Tryd.prog) w 24 24 o.type 5 g 0 m c ad n cs (arr .u8 cur) t (xs.map (Value.int .u8)) Tryd.underlying24 (by kernel_rfl) hg (by rw [List.length_map,hl];exact (Nat.min_eq_left hnm).symm) (jf hsrc _ rfl) (by rw [List.length_map,hl,aF];omega) (mF _ _)
 unfold Oper.wp execOp
 simp only [ho,resolve,invoke,builtin,Sem.run_bind,Sem.run_pure,Result.andThen_ok,List.map_toArray,List.map_cons,List.map_nil,hd,hs,hrun]
 have e:((arr .u8 cur).toList.take 0 ++ xs.map (Value.int .u8) ++ (arr .u8 cur).toList.drop (0+(xs.map (Value.int .u8)).length)).toArray=arr .u8 (xs ++ cur.drop n):=by
  show ((cur.map (Value.int .u8)).take 0 ++ xs.map (Value.int .u8) ++ (cur.map (Value.int .u8)).drop (0+(xs.map (Value.int .u8)).length)).toArray=((xs ++ cur.drop n).map (Value.int .u8)).toArray
  rw [List.length_map,hl,List.map_append,List.map_drop,List.take_zero,List.nil_append,Nat.zero_add]
 rw [e,List.length_map,hl]
 exact h _ (setRow_heap w g _ _ t _ hg) ⟨rfl,rfl,rfl,by simp [World.setRow],fun k _ hne=>setRow_other w g k _ hne⟩
theorem vC {w w':World} {v v':Value} {t u:TypeId} (h:(convert t u v).run Tryd.prog w = .ok v' w'):(do pure (Next.value (← convert t u v)):Sem Next).run Tryd.prog w = .ok (.value v') w':=by
 simp only [Sem.run_bind,h,Result.andThen_ok]
 rfl
theorem uZ {P:Program} {Q:Exit→Act→World→Prop} {ops:Array Oper} {o:Oper} {b:Act} {u u':World} {K:Act→World→Prop} {E:Prop} (hgd:o.guard=none) (v:Value) (hrun:(execOp b.eval o).run P u = .ok (.value v) u') (h:K (b.put o.dst v) u') :
  if Region.wanted o (yielded ops b.tmps)=true then Oper.wp P o b u K Q else E:=by
 rw [if_pos (by simp [Region.wanted,hgd])]
 unfold Oper.wp
 rw [hrun]
 exact h
theorem zW (w:World) (g n c:Nat) (C:Array Value) (hg:w.heap[g]? = some (.cells C 5 (0,0))) :
  ∃ w',(convert 24 24 (.slice (some ⟨g,0,none⟩) n c)).run Tryd.prog w = .ok (.slice (some ⟨g,0,none⟩) n c) w'∧w'.heap[g]? = some (.cells C 5 (C.size,C.size+1))∧Kept (fun x=>x=g) w w':=by
 have hsh:w.shape? g=some (5, C.size):=by
  unfold World.shape?
  rw [hg]
 refine ⟨w.freeze ⟨g,C.size,none⟩ 1,?_,?_,?_⟩
 ·simp [convert,run_underlying Tryd.underlying24, run_underlying Tryd.underlying5, markStringish,hsh]
 ·unfold World.freeze
  rw [if_neg (by decide)]
  simp only [Array.getElem?_modify,if_true,hg,Option.map_some]
  rfl
 ·unfold World.freeze
  rw [if_neg (by decide)]
  refine ⟨rfl,rfl,rfl,by simp,fun k hk hne=>?_⟩
  simp only [Array.getElem?_modify]
  rw [if_neg (fun e=>hne e.symm)]
theorem Dw (es zs:List Int) (w:World) (he:es.length=32) (hz:zs.length=32) (be:bytes es) (bz:bytes zs) (hk:Ha.eB w) :
  Calls Tryd.prog 54 #[.agg (arr .u8 es), .agg (arr .u8 zs)] w fun e w'=>e = .returned (.agg (arr .u8 (Gg es zs)))∧Below w.heap.size w w':=by
 have hex:=fun (g1 g2:Addr) (u:World) (h1:Src u (some g1) 32 es) (h2:Src u (some g2) 32 zs) (h3:Ha.eB u)=>DU es zs g1 32 32 g2 32 32 u h1 be (by decide) h2 bz (by decide) (by decide) h3
 obtain ⟨lit,hlit⟩:∃ x:List Int,x=[119,114,97,112]:=⟨_,rfl⟩
 have hlb:bytes lit:=by rw [hlit];intro x hx;simp only [List.mem_cons,List.not_mem_nil,or_false] at hx;rcases hx with rfl|rfl|rfl|rfl <;> decide
 have hll:lit.length=4:=by rw [hlit];rfl
 have hla:(#[.int .u8 119, .int .u8 114, .int .u8 97, .int .u8 112]:Array Value)=arr .u8 lit:=by rw [hlit];rfl
 have hxp:∀ (u:World) (a:Addr),Src u (some a) 4 lit→Ha.eB u→Calls Tryd.prog 74 #[.agg (arr .u8 (J4 es zs)), .slice (some a) 4 4, .int .i64 32] u fun e w'=>∃ g c,e = .returned (.slice (some ⟨g,0,none⟩) 32 c)∧Src w' (some ⟨g,0,none⟩) 32 (Gg es zs)∧Below u.heap.size u w':=by
  intro u a h1 h2
  refine (Gy (J4 es zs) lit a 4 4 u (Eh _ _) (Q8 _ _) h1 hlb (by decide) h2).mono ?_
  rintro e w' ⟨v,rfl,ho,hb⟩
  rw [show J4 (J4 es zs) (lit ++ [1])=Gg es zs by rw [hlit];rfl] at ho
  obtain ⟨sa,c,rfl, -, -, h3,hor⟩:=ho.form
  rw [sN] at h3 ⊢
  rcases hor with ⟨-, h0, -⟩|⟨g,rfl, -, -⟩
  ·have:=sN es zs
   rw [h0] at this
   exact absurd this (by decide)
  ·exact ⟨g,c,rfl,h3,hb⟩
 obtain ⟨m1,hm1⟩:∃ x,x=J4 es zs:=⟨_,rfl⟩
 obtain ⟨k1,hk1⟩:∃ x,x=Gg es zs:=⟨_,rfl⟩
 rw [← hm1] at hex hxp
 rw [← hk1] at hxp ⊢
 have uH:Hid (k1.length=32):=Lib.hid (by rw [hk1];exact sN _ _)
 have HEX:=Lib.hid hex
 have HXP:=Lib.hid hxp
 have HLA:=Lib.hid hla
 have SA:=Lib.hid hll
 have IU:=Lib.hid he
 have uD:=Lib.hid hz
 have vO:=Lib.hid hk
 obtain ⟨zn,hzn⟩:∃ zs:List Int,zs=List.replicate 32 0:=⟨_,rfl⟩
 have dx:Hid (∀ w,(zeroValue 23).run Tryd.prog w = .ok (.agg (arr .u8 zn)) w):=Lib.hid (by intro w;rw [hzn];exact zero_num w)
 have cB:Hid (zn.length=32):=Lib.hid (by rw [hzn];rfl)
 have HCP:Hid (k1 ++ zn.drop 32=k1):=Lib.hid (by rw [hzn];simp)
 have HI0:=Lib.hid (bM.three w (arr .u8 es) (arr .u8 zs) (arr .u8 zn) 23 23 23)
 clear hm1 hk1 hex hxp hla hll hlb hlit he hz be bz hzn hk
 go_enter Tryd.func54, Tryd.ntmps54
 go_upto_region 1 with (first|((with_reducible refine aS 4 ?_);refine aj rfl 23 rfl _ (dx.out _) ?_))
 (try simp only [World.size_alloc,Act.put,sA,sZ,sS])
 generalize (((w.alloc (.cells (arr .u8 es) 23)).alloc (.cells (arr .u8 zs) 23)).alloc (.cells (arr .u8 zn) 23))=wb at HI0 ⊢
 go_upto_region 2 with (first|((with_reducible refine aS 5 ?_);refine aj rfl 23 rfl _ (dx.out _) ?_;have HI1:=Lib.hid (HI0.out.alloc (arr .u8 zn) 23);generalize wb.heap.size=g5 at HI1 ⊢; generalize wb.alloc (.cells (arr .u8 zn) 23)=w1 at HI1 ⊢))
 (try simp only [World.size_alloc,Act.put,sA,sZ,sS])
 refine wp_region_held_drew (S:=fun _=>True) (by kernel_rfl) trivial (fun hHeld=>?_)
 have dX:=Lib.hid (HI1.out.drew)
 generalize w1.drew=wd at dX ⊢
 refine wpAnyH_take (i:=0) (oi:=(⟨some 6,_,_,_,_,none⟩:Oper)) (v := .slice (some ⟨g5,0,none⟩) 32 32) rfl (by kernel_rfl) (by kernel_rfl) (by kernel_rfl) (fun _ _ _ h=>h) (Or.inl ⟨by rfl,?hy6706⟩) trivial ?rest6706
 case hy6706=>(intro w _;(try dsimp only);go_simp;try (with_reducible rfl))
 (try simp only [Act.put,sA,sZ,sS])
 refine wpAnyH_take (i:=1) (oi:=(⟨some 7,_,_,_,_,none⟩:Oper)) (v := .slice (some ⟨w.heap.size,0,none⟩) 32 32) rfl (by kernel_rfl) (by kernel_rfl) (by kernel_rfl) (fun _ _ _ h=>h) (Or.inl ⟨by rfl,?hy6707⟩) trivial ?rest6707
 case hy6707=>(intro w _;(try dsimp only);go_simp;try (with_reducible rfl))
 (try simp only [Act.put,sA,sZ,sS])
 refine wpAnyH_take (i:=2) (oi:=(⟨some 8,_,_,_,_,none⟩:Oper)) (v := .slice (some ⟨w.heap.size+1,0,none⟩) 32 32) rfl (by kernel_rfl) (by kernel_rfl) (by kernel_rfl) (fun _ _ _ h=>h) (Or.inl ⟨by rfl,?hy6708⟩) trivial ?rest6708
 case hy6708=>(intro w _;(try dsimp only);go_simp;try (with_reducible rfl))
 (try simp only [Act.put,sA,sZ,sS])
 refine wpAnyH_ready (rs:=[3,4]) (by kernel_rfl) (by simp) ?_
 refine AllReadyH.cons (o:=(⟨some 9,_,_,_,_,none⟩:Oper)) rfl (fun K hK=>?_) ?_
 ·go_simp
  go_at_call 75
  refine (HEX.out _ _ _ (bO (dX.out.get 0 rfl) 32 IU.out) (bO (dX.out.get 1 rfl) 32 uD.out) (dI vO.out dX.out.below)).mono ?_
  rintro e y18 ⟨rfl,dG⟩
  have HY18:=Lib.hid (dX.out.kept dG)
  clear dG
  (try dsimp only)
  refine hK.out _ _ trivial (fun _=>?_)
  clear hK K
  (try simp only [Act.put,sA,sZ,sS])
  refine wpAnyH_ready (rs:=[4]) (by kernel_rfl) (by simp) ?_
  refine AllReadyH.cons (o:=(⟨some 10,_,_,_,_,none⟩:Oper)) rfl (fun K hK=>?_) AllReadyH.nil
  go_simp
  rw [HLA.out]
  have rF:=Lib.hid (HY18.out.alloc (arr .u8 lit) 5)
  generalize y18.heap.size=gl at rF ⊢
  generalize y18.alloc (.cells (arr .u8 lit) 5)=y19 at rF ⊢
  refine hK.out _ _ trivial (fun _=>?_)
  clear hK K
  (try simp only [Act.put,sA,sZ,sS])
  refine wpAnyH_ready (rs:=[5]) (by kernel_rfl) (by simp) ?_
  refine AllReadyH.cons (o:=(⟨some 11,_,_,_,_,none⟩:Oper)) rfl (fun K hK=>?_) AllReadyH.nil
  obtain ⟨y20,hrun,hcl,hkp⟩:=zW y19 gl 4 4 (arr .u8 lit) (rF.out.get 4 rfl)
  have hbe:Below w.heap.size w y20:=⟨hkp.os.trans rF.out.below.os,hkp.tape.trans rF.out.below.tape,hkp.output.trans rF.out.below.output,Nat.le_trans rF.out.below.size hkp.size,fun k hk=>(hkp.block k (Nat.lt_of_lt_of_le hk rF.out.below.size) (fun e=>by have:=rF.out.low 4 rfl;omega)).trans (rF.out.below.block k hk)⟩
  have HY20:=Lib.hid (bM.grown (r:=some gl) (rF.out.less 4) ⟨hkp.os,hkp.tape,hkp.output,hkp.size,fun k hk hne=>hkp.block k hk (fun e=>hne (by rw [e]))⟩ (by
   intro e he
   have n0:=rF.out.ne 0 4 rfl rfl (by decide)
   have n1:=rF.out.ne 1 4 rfl rfl (by decide)
   have n2:=rF.out.ne 2 4 rfl rfl (by decide)
   have n3:=rF.out.ne 3 4 rfl rfl (by decide)
   simp only [List.take,List.mem_append,List.mem_cons,List.not_mem_nil,or_false,List.cons_append,List.nil_append] at he
   intro e2
   have e3:=Option.some.inj e2
   rcases he with rfl|rfl|rfl|rfl <;> simp only at e3 <;> first|exact n0 e3|exact n1 e3|exact n2 e3|exact n3 e3) hbe)
  have HS20:Hid (Src y20 (some ⟨gl,0,none⟩) 4 lit):=Lib.hid (bO hcl 4 SA.out)
  refine uZ rfl (.slice (some ⟨gl,0,none⟩) 4 4) (vC hrun) ?_
  clear hrun hcl hkp hbe
  refine hK.out _ _ trivial (fun _=>?_)
  clear hK K
  (try simp only [Act.put,sA,sZ,sS])
  refine wpAnyH_ready (rs:=[6]) (by kernel_rfl) (by simp) ?_
  refine AllReadyH.cons (o:=(⟨some 12,_,_,_,_,none⟩:Oper)) rfl (fun K hK=>?_) AllReadyH.nil
  go_simp
  go_at_call 74
  refine (HXP.out _ _ HS20.out (dI vO.out HY20.out.below)).mono ?_
  rintro e y21 ⟨gv,cv,rfl,hsv,dG⟩
  have HY21:=Lib.hid (HY20.out.kept dG)
  have HSV:=Lib.hid hsv
  clear dG hsv
  (try dsimp only)
  refine hK.out _ _ trivial (fun _=>?_)
  clear hK K
  (try simp only [Act.put,sA,sZ,sS])
  refine wpAnyH_ready (rs:=[7]) (by kernel_rfl) (by simp) ?_
  refine AllReadyH.cons (o:=(⟨some 13,_,_,_,_,none⟩:Oper)) rfl (fun K hK=>?_) AllReadyH.nil
  refine qU rfl (.tmp 6) (.tmp 12) rfl g5 32 32 32 cv ⟨gv,0,none⟩ zn k1 23 rfl rfl (HY21.out.get 3 rfl) HSV.out (Nat.le_refl _) (by rw [cB.out];exact Nat.le_refl _) ?_
  rw [HCP.out]
  intro y22 dG nK
  have HY22:=Lib.hid (HY21.out.put 3 rfl nK dG)
  clear dG nK
  refine hK.out _ _ trivial (fun _=>?_)
  clear hK K
  (try simp only [Act.put,sA,sZ,sS])
  refine wpAnyH_done (by kernel_rfl) ?_ _
  (try simp only [Exit.then])
  go_wp2_with (first|((with_reducible refine aS 14 ?_);refine ak rfl 23 _ rfl (g5) 0 _ 23 (0,0) _ (HY22.out.get 3 rfl) rfl .u8 k1 (au _ _) Tryd.underlying23 rfl (bU uH.out) ?_)|((with_reducible refine aT 4 ?_);refine ah rfl 23 _ _ rfl (w.heap.size+1+1) _ _ 23 (HY22.out.get 2 rfl) rfl rfl (ay _ _ uH.out cB.out) (bE uH.out) (av _ _) ?_;intro w99 o7 oZ zF;have HIF:=Lib.hid (HY22.out.put 2 rfl oZ o7);clear o7 oZ zF))
  (try simp only [Exit.then])
  refine bodyPost_ret (results_cell_row rfl _ _ (w.heap.size+1+1) 23 _ (0,0) _ rfl (HIF.out.get 2 rfl) Tryd.underlying23 rfl (bE uH.out)) rfl ?_
  exact ⟨rfl,HIF.out.below⟩
 refine AllReadyH.cons (o:=(⟨some 10,_,_,_,_,none⟩:Oper)) rfl (fun K hK=>?_) AllReadyH.nil
 go_simp
 rw [HLA.out]
 have nQ:=Lib.hid (dX.out.alloc (arr .u8 lit) 5)
 generalize wd.heap.size=gl at nQ ⊢
 generalize wd.alloc (.cells (arr .u8 lit) 5)=y23 at nQ ⊢
 refine hK.out _ _ trivial (fun _=>?_)
 clear hK K
 (try simp only [Act.put,sA,sZ,sS])
 refine wpAnyH_ready (rs:=[3,5]) (by kernel_rfl) (by simp) ?_
 refine AllReadyH.cons (o:=(⟨some 9,_,_,_,_,none⟩:Oper)) rfl (fun K hK=>?_) ?_
 ·go_simp
  go_at_call 75
  refine (HEX.out _ _ _ (bO (nQ.out.get 0 rfl) 32 IU.out) (bO (nQ.out.get 1 rfl) 32 uD.out) (dI vO.out nQ.out.below)).mono ?_
  rintro e y24 ⟨rfl,dG⟩
  have vM:=Lib.hid (nQ.out.kept dG)
  clear dG
  (try dsimp only)
  refine hK.out _ _ trivial (fun _=>?_)
  clear hK K
  (try simp only [Act.put,sA,sZ,sS])
  refine wpAnyH_ready (rs:=[5]) (by kernel_rfl) (by simp) ?_
  refine AllReadyH.cons (o:=(⟨some 11,_,_,_,_,none⟩:Oper)) rfl (fun K hK=>?_) AllReadyH.nil
  obtain ⟨y25,hrun,hcl,hkp⟩:=zW y24 gl 4 4 (arr .u8 lit) (vM.out.get 4 rfl)
  have hbe:Below w.heap.size w y25:=⟨hkp.os.trans vM.out.below.os,hkp.tape.trans vM.out.below.tape,hkp.output.trans vM.out.below.output,Nat.le_trans vM.out.below.size hkp.size,fun k hk=>(hkp.block k (Nat.lt_of_lt_of_le hk vM.out.below.size) (fun e=>by have:=vM.out.low 4 rfl;omega)).trans (vM.out.below.block k hk)⟩
  have HY25:=Lib.hid (bM.grown (r:=some gl) (vM.out.less 4) ⟨hkp.os,hkp.tape,hkp.output,hkp.size,fun k hk hne=>hkp.block k hk (fun e=>hne (by rw [e]))⟩ (by
   intro e he
   have n0:=vM.out.ne 0 4 rfl rfl (by decide)
   have n1:=vM.out.ne 1 4 rfl rfl (by decide)
   have n2:=vM.out.ne 2 4 rfl rfl (by decide)
   have n3:=vM.out.ne 3 4 rfl rfl (by decide)
   simp only [List.take,List.mem_append,List.mem_cons,List.not_mem_nil,or_false,List.cons_append,List.nil_append] at he
   intro e2
   have e3:=Option.some.inj e2
   rcases he with rfl|rfl|rfl|rfl <;> simp only at e3 <;> first|exact n0 e3|exact n1 e3|exact n2 e3|exact n3 e3) hbe)
  have HS25:Hid (Src y25 (some ⟨gl,0,none⟩) 4 lit):=Lib.hid (bO hcl 4 SA.out)
  refine uZ rfl (.slice (some ⟨gl,0,none⟩) 4 4) (vC hrun) ?_
  clear hrun hcl hkp hbe
  refine hK.out _ _ trivial (fun _=>?_)
  clear hK K
  (try simp only [Act.put,sA,sZ,sS])
  refine wpAnyH_ready (rs:=[6]) (by kernel_rfl) (by simp) ?_
  refine AllReadyH.cons (o:=(⟨some 12,_,_,_,_,none⟩:Oper)) rfl (fun K hK=>?_) AllReadyH.nil
  go_simp
  go_at_call 74
  refine (HXP.out _ _ HS25.out (dI vO.out HY25.out.below)).mono ?_
  rintro e y26 ⟨gv,cv,rfl,hsv,dG⟩
  have HY26:=Lib.hid (HY25.out.kept dG)
  have HSV:=Lib.hid hsv
  clear dG hsv
  (try dsimp only)
  refine hK.out _ _ trivial (fun _=>?_)
  clear hK K
  (try simp only [Act.put,sA,sZ,sS])
  refine wpAnyH_ready (rs:=[7]) (by kernel_rfl) (by simp) ?_
  refine AllReadyH.cons (o:=(⟨some 13,_,_,_,_,none⟩:Oper)) rfl (fun K hK=>?_) AllReadyH.nil
  refine qU rfl (.tmp 6) (.tmp 12) rfl g5 32 32 32 cv ⟨gv,0,none⟩ zn k1 23 rfl rfl (HY26.out.get 3 rfl) HSV.out (Nat.le_refl _) (by rw [cB.out];exact Nat.le_refl _) ?_
  rw [HCP.out]
  intro y27 dG nK
  have HY27:=Lib.hid (HY26.out.put 3 rfl nK dG)
  clear dG nK
  refine hK.out _ _ trivial (fun _=>?_)
  clear hK K
  (try simp only [Act.put,sA,sZ,sS])
  refine wpAnyH_done (by kernel_rfl) ?_ _
  (try simp only [Exit.then])
  go_wp2_with (first|((with_reducible refine aS 14 ?_);refine ak rfl 23 _ rfl (g5) 0 _ 23 (0,0) _ (HY27.out.get 3 rfl) rfl .u8 k1 (au _ _) Tryd.underlying23 rfl (bU uH.out) ?_)|((with_reducible refine aT 4 ?_);refine ah rfl 23 _ _ rfl (w.heap.size+1+1) _ _ 23 (HY27.out.get 2 rfl) rfl rfl (ay _ _ uH.out cB.out) (bE uH.out) (av _ _) ?_;intro w99 o7 oZ zF;have HIF:=Lib.hid (HY27.out.put 2 rfl oZ o7);clear o7 oZ zF))
  (try simp only [Exit.then])
  refine bodyPost_ret (results_cell_row rfl _ _ (w.heap.size+1+1) 23 _ (0,0) _ rfl (HIF.out.get 2 rfl) Tryd.underlying23 rfl (bE uH.out)) rfl ?_
  exact ⟨rfl,HIF.out.below⟩
 refine AllReadyH.cons (o:=(⟨some 11,_,_,_,_,none⟩:Oper)) rfl (fun K hK=>?_) AllReadyH.nil
 obtain ⟨y28,hrun,hcl,hkp⟩:=zW y23 gl 4 4 (arr .u8 lit) (nQ.out.get 4 rfl)
 have hbe:Below w.heap.size w y28:=⟨hkp.os.trans nQ.out.below.os,hkp.tape.trans nQ.out.below.tape,hkp.output.trans nQ.out.below.output,Nat.le_trans nQ.out.below.size hkp.size,fun k hk=>(hkp.block k (Nat.lt_of_lt_of_le hk nQ.out.below.size) (fun e=>by have:=nQ.out.low 4 rfl;omega)).trans (nQ.out.below.block k hk)⟩
 have HY28:=Lib.hid (bM.grown (r:=some gl) (nQ.out.less 4) ⟨hkp.os,hkp.tape,hkp.output,hkp.size,fun k hk hne=>hkp.block k hk (fun e=>hne (by rw [e]))⟩ (by
  intro e he
  have n0:=nQ.out.ne 0 4 rfl rfl (by decide)
  have n1:=nQ.out.ne 1 4 rfl rfl (by decide)
  have n2:=nQ.out.ne 2 4 rfl rfl (by decide)
  have n3:=nQ.out.ne 3 4 rfl rfl (by decide)
  simp only [List.take,List.mem_append,List.mem_cons,List.not_mem_nil,or_false,List.cons_append,List.nil_append] at he
  intro e2
  have e3:=Option.some.inj e2
  rcases he with rfl|rfl|rfl|rfl <;> simp only at e3 <;> first|exact n0 e3|exact n1 e3|exact n2 e3|exact n3 e3) hbe)
 have HS28:Hid (Src y28 (some ⟨gl,0,none⟩) 4 lit):=Lib.hid (bO hcl 4 SA.out)
 refine uZ rfl (.slice (some ⟨gl,0,none⟩) 4 4) (vC hrun) ?_
 clear hrun hcl hkp hbe
 refine hK.out _ _ trivial (fun _=>?_)
 clear hK K
 (try simp only [Act.put,sA,sZ,sS])
 refine wpAnyH_ready (rs:=[3]) (by kernel_rfl) (by simp) ?_
 refine AllReadyH.cons (o:=(⟨some 9,_,_,_,_,none⟩:Oper)) rfl (fun K hK=>?_) AllReadyH.nil
 go_simp
 go_at_call 75
 refine (HEX.out _ _ _ (bO (HY28.out.get 0 rfl) 32 IU.out) (bO (HY28.out.get 1 rfl) 32 uD.out) (dI vO.out HY28.out.below)).mono ?_
 rintro e y29 ⟨rfl,dG⟩
 have HY29:=Lib.hid (HY28.out.kept dG)
 have HS29:=Lib.hid (HS28.out.below dG)
 clear dG
 (try dsimp only)
 refine hK.out _ _ trivial (fun _=>?_)
 clear hK K
 (try simp only [Act.put,sA,sZ,sS])
 refine wpAnyH_ready (rs:=[6]) (by kernel_rfl) (by simp) ?_
 refine AllReadyH.cons (o:=(⟨some 12,_,_,_,_,none⟩:Oper)) rfl (fun K hK=>?_) AllReadyH.nil
 go_simp
 go_at_call 74
 refine (HXP.out _ _ HS29.out (dI vO.out HY29.out.below)).mono ?_
 rintro e y30 ⟨gv,cv,rfl,hsv,dG⟩
 have HY30:=Lib.hid (HY29.out.kept dG)
 have HSV:=Lib.hid hsv
 clear dG hsv
 (try dsimp only)
 refine hK.out _ _ trivial (fun _=>?_)
 clear hK K
 (try simp only [Act.put,sA,sZ,sS])
 refine wpAnyH_ready (rs:=[7]) (by kernel_rfl) (by simp) ?_
 refine AllReadyH.cons (o:=(⟨some 13,_,_,_,_,none⟩:Oper)) rfl (fun K hK=>?_) AllReadyH.nil
 refine qU rfl (.tmp 6) (.tmp 12) rfl g5 32 32 32 cv ⟨gv,0,none⟩ zn k1 23 rfl rfl (HY30.out.get 3 rfl) HSV.out (Nat.le_refl _) (by rw [cB.out];exact Nat.le_refl _) ?_
 rw [HCP.out]
 intro y31 dG nK
 have HY31:=Lib.hid (HY30.out.put 3 rfl nK dG)
 clear dG nK
 refine hK.out _ _ trivial (fun _=>?_)
 clear hK K
 (try simp only [Act.put,sA,sZ,sS])
 refine wpAnyH_done (by kernel_rfl) ?_ _
 (try simp only [Exit.then])
 go_wp2_with (first|((with_reducible refine aS 14 ?_);refine ak rfl 23 _ rfl (g5) 0 _ 23 (0,0) _ (HY31.out.get 3 rfl) rfl .u8 k1 (au _ _) Tryd.underlying23 rfl (bU uH.out) ?_)|((with_reducible refine aT 4 ?_);refine ah rfl 23 _ _ rfl (w.heap.size+1+1) _ _ 23 (HY31.out.get 2 rfl) rfl rfl (ay _ _ uH.out cB.out) (bE uH.out) (av _ _) ?_;intro w99 o7 oZ zF;have HIF:=Lib.hid (HY31.out.put 2 rfl oZ o7);clear o7 oZ zF))
 (try simp only [Exit.then])
 refine bodyPost_ret (results_cell_row rfl _ _ (w.heap.size+1+1) 23 _ (0,0) _ rfl (HIF.out.get 2 rfl) Tryd.underlying23 rfl (bE uH.out)) rfl ?_
 exact ⟨rfl,HIF.out.below⟩
end Go.Proofs.YthdgbgleklkaiaaDoor.Wr
