/- The document's wrapping: The document's LadderPublic, Shared: The docu. Condition: as each theorem says. -/

import Derived.Test.YthdgbgleklkaiaaGreatDoorQc25
import Derived.Test.YthdgbgleklkaiaaGreatDoorQc35
open Go.Lib renaming hid→abC
open Nat renaming le_refl→abD,le_trans→abI,lt_of_lt_of_le→abM
open List renaming length_map→abE,nil_append→abF,mem_cons→abG,not_mem_nil→abH,mem_append→abJ,cons_append→abK,replicate→abL,take→abN
open Array renaming getElem?_modify→abO
set_option linter.unusedSimpArgs false
set_option linter.unusedVariables false
set_option maxRecDepth 100000
set_option maxHeartbeats 16000000
namespace Go.Proofs.YthdgbgleklkaiaaGreatDoor.Wr
open Go.RowKit Lm Cu Sl
theorem qY {w:World} {ops:Array Oper} {o:Oper} {a:Act} {K:Act→World→Prop} {Q:Exit→Act→World→Prop} {E:Prop} (hgd:o.guard=none) (d s:Operand)
  (ho:o.op = .call { callee := .builtin .copy,args := #[d,s],argTypes := #[22, 22] }) (g m c n cs:Nat) (ad:Addr) (cur xs:List Int) (t:TypeId)
  (hd:a.eval d = .slice (some ⟨g,0,none⟩) m c) (hs:a.eval s = .slice (some ad) n cs) (hg:w.heap[g]? = some (.cells (arr .u8 cur) t (0,0))) (hsrc:Src w (some ad) n xs) (hnm:n≤m) (hfit:m≤cur.length)
  (h:∀ w',w'.heap[g]? = some (.cells (arr .u8 (xs ++ cur.drop n)) t (0,0))→Kept (fun x=>x=g) w w'→K (a.put o.dst (.int .i64 (n:Int))) w') :
  if Region.wanted o (yielded ops a.tmps)=true then Oper.wp Tryz.prog o a w K Q else E:=by
 rw [if_pos (by simp [Region.wanted,hgd])]
 have hl:=hsrc.len
 have hrun:=run_copy_row (P := Tryz.prog) w 22 22 o.type 5 g 0 m c ad n cs (arr .u8 cur) t (xs.map (Value.int .u8)) Tryz.underlying22 (by kernel_rfl) hg (by rw [abE,hl];exact (Nat.min_eq_left hnm).symm) (jq hsrc _ rfl) (by rw [abE,hl,aD];omega) (mQ _ _)
 unfold Oper.wp execOp
 simp only [ho,resolve,invoke,builtin,Sem.run_bind,Sem.run_pure,Result.andThen_ok,List.map_toArray,List.map_cons,List.map_nil,hd,hs,hrun]
 have e:((arr .u8 cur).toList.take 0 ++ xs.map (Value.int .u8) ++ (arr .u8 cur).toList.drop (0+(xs.map (Value.int .u8)).length)).toArray=arr .u8 (xs ++ cur.drop n):=by
  show ((cur.map (Value.int .u8)).take 0 ++ xs.map (Value.int .u8) ++ (cur.map (Value.int .u8)).drop (0+(xs.map (Value.int .u8)).length)).toArray=((xs ++ cur.drop n).map (Value.int .u8)).toArray
  rw [abE,hl,List.map_append,List.map_drop,List.take_zero,abF,Nat.zero_add]
 rw [e,abE,hl]
 exact h _ (setRow_heap w g _ _ t _ hg) ⟨rfl,rfl,rfl,by simp [World.setRow],fun k _ hne=>setRow_other w g k _ hne⟩
theorem vF {w w':World} {v v':Value} {t u:TypeId} (h:(convert t u v).run Tryz.prog w = .ok v' w'):(do pure (Next.value (← convert t u v)):Sem Next).run Tryz.prog w = .ok (.value v') w':=by
 simp only [Sem.run_bind,h,Result.andThen_ok]
 rfl
theorem uZ {P:Program} {Q:Exit→Act→World→Prop} {ops:Array Oper} {o:Oper} {b:Act} {u u':World} {K:Act→World→Prop} {E:Prop} (hgd:o.guard=none) (v:Value) (hrun:(execOp b.eval o).run P u = .ok (.value v) u') (h:K (b.put o.dst v) u') :
  if Region.wanted o (yielded ops b.tmps)=true then Oper.wp P o b u K Q else E:=by
 rw [if_pos (by simp [Region.wanted,hgd])]
 unfold Oper.wp
 rw [hrun]
 exact h
theorem Bd (w:World) (g n c:Nat) (C:Array Value) (hg:w.heap[g]? = some (.cells C 5 (0,0))) :
  ∃ w',(convert 22 22 (.slice (some ⟨g,0,none⟩) n c)).run Tryz.prog w = .ok (.slice (some ⟨g,0,none⟩) n c) w'∧w'.heap[g]? = some (.cells C 5 (C.size,C.size+1))∧Kept (fun x=>x=g) w w':=by
 have hsh:w.shape? g=some (5, C.size):=by
  unfold World.shape?
  rw [hg]
 refine ⟨w.freeze ⟨g,C.size,none⟩ 1,?_,?_,?_⟩
 ·simp [convert,run_underlying Tryz.underlying22, run_underlying Tryz.underlying5, markStringish,hsh]
 ·unfold World.freeze
  rw [if_neg (by decide)]
  simp only [abO,if_true,hg,Option.map_some]
  rfl
 ·unfold World.freeze
  rw [if_neg (by decide)]
  refine ⟨rfl,rfl,rfl,by simp,fun k hk hne=>?_⟩
  simp only [abO]
  rw [if_neg (fun e=>hne e.symm)]
theorem ED (es zs:List Int) (w:World) (he:es.length=32) (hz:zs.length=32) (be:bytes es) (bz:bytes zs) (hk:Ha.eP w) :
  Calls Tryz.prog 86 #[.agg (arr .u8 es), .agg (arr .u8 zs)] w fun e w'=>e = .returned (.agg (arr .u8 (Ii es zs)))∧Below w.heap.size w w':=by
 have hex:=fun (g1 g2:Addr) (u:World) (h1:Src u (some g1) 32 es) (h2:Src u (some g2) 32 zs) (h3:Ha.eP u)=>ES es zs g1 32 32 g2 32 32 u h1 be (by decide) h2 bz (by decide) (by decide) h3
 obtain ⟨lit,hlit⟩:∃ x:List Int,x=[119,114,97,112]:=⟨_,rfl⟩
 have hlb:bytes lit:=by rw [hlit];intro x hx;simp only [abG,abH,or_false] at hx;rcases hx with rfl|rfl|rfl|rfl <;> decide
 have hll:lit.length=4:=by rw [hlit];rfl
 have hla:(#[.int .u8 119, .int .u8 114, .int .u8 97, .int .u8 112]:Array Value)=arr .u8 lit:=by rw [hlit];rfl
 have hxp:∀ (u:World) (a:Addr),Src u (some a) 4 lit→Ha.eP u→Calls Tryz.prog 137 #[.agg (arr .u8 (Lg es zs)), .slice (some a) 4 4, .int .i64 32] u fun e w'=>∃ g c,e = .returned (.slice (some ⟨g,0,none⟩) 32 c)∧Src w' (some ⟨g,0,none⟩) 32 (Ii es zs)∧Below u.heap.size u w':=by
  intro u a h1 h2
  refine (IK (Lg es zs) lit a 4 4 u (FK _ _) (Ti _ _) h1 hlb (by decide) h2).mono ?_
  rintro e w' ⟨v,rfl,ho,hb⟩
  rw [show Lg (Lg es zs) (lit ++ [1])=Ii es zs by rw [hlit];rfl] at ho
  obtain ⟨sa,c,rfl, -, -, h3,hor⟩:=ho.form
  rw [sM] at h3 ⊢
  rcases hor with ⟨-, h0, -⟩|⟨g,rfl, -, -⟩
  ·have:=sM es zs
   rw [h0] at this
   exact absurd this (by decide)
  ·exact ⟨g,c,rfl,h3,hb⟩
 obtain ⟨m1,hm1⟩:∃ x,x=Lg es zs:=⟨_,rfl⟩
 obtain ⟨k1,hk1⟩:∃ x,x=Ii es zs:=⟨_,rfl⟩
 rw [← hm1] at hex hxp
 rw [← hk1] at hxp ⊢
 have qJ:Hid (k1.length=32):=abC (by rw [hk1];exact sM _ _)
 have HEX:=abC hex
 have HXP:=abC hxp
 have HLA:=abC hla
 have UW:=abC hll
 have J7:=abC he
 have uz:=abC hz
 have vV:=abC hk
 obtain ⟨zn,hzn,dB,dw⟩:=zN zero_num
 have HCP:Hid (k1 ++ zn.drop 32=k1):=abC (by rw [hzn];simp)
 have HI0:=abC (bO.three w (arr .u8 es) (arr .u8 zs) (arr .u8 zn) 25 25 25)
 clear hm1 hk1 hex hxp hla hll hlb hlit he hz be bz hzn hk
 go_enter Tryz.func86, Tryz.ntmps86
 go_upto_region 1 with (first|((with_reducible refine aS 4 ?_);refine ah rfl 25 rfl _ (dB.out _) ?_))
 (try simp only [World.size_alloc,Act.put,sA,sZ,sS])
 generalize (((w.alloc (.cells (arr .u8 es) 25)).alloc (.cells (arr .u8 zs) 25)).alloc (.cells (arr .u8 zn) 25))=wb at HI0 ⊢
 go_upto_region 2 with (first|((with_reducible refine aS 5 ?_);refine lA rfl rfl (dB.out _) HI0 ?_;intro g5 w1 HI1))
 (try simp only [World.size_alloc,Act.put,sA,sZ,sS])
 refine wp_region_held_drew (S:=fun _=>True) (by kernel_rfl) trivial (fun hHeld=>?_)
 have eF:=abC (HI1.out.drew)
 generalize w1.drew=wd at eF ⊢
 refine wpAnyH_take (i:=0) (oi:=(⟨some 6,_,_,_,_,none⟩:Oper)) (v := .slice (some ⟨g5,0,none⟩) 32 32) rfl (by kernel_rfl) (by kernel_rfl) (by kernel_rfl) (fun _ _ _ h=>h) (Or.inl ⟨by rfl,?hy6706⟩) trivial ?rest6706
 case hy6706=>(intro w _;(try dsimp only);go_simp;try (with_reducible rfl))
 (try simp only [Act.put,sA,sZ,sS])
 refine wpAnyH_take (i:=1) (oi:=(⟨some 7,_,_,_,_,none⟩:Oper)) (v := .slice (some ⟨w.heap.size,0,none⟩) 32 32) rfl (by kernel_rfl) (by kernel_rfl) (by kernel_rfl) (fun _ _ _ h=>h) (Or.inl ⟨by rfl,?hy6707⟩) trivial ?rest6707
 case hy6707=>(intro w _;(try dsimp only);go_simp;try (with_reducible rfl))
 (try simp only [Act.put,sA,sZ,sS])
 refine wpAnyH_take (i:=2) (oi:=(⟨some 8,_,_,_,_,none⟩:Oper)) (v := .slice (some ⟨w.heap.size+1,0,none⟩) 32 32) rfl (by kernel_rfl) (by kernel_rfl) (by kernel_rfl) (fun _ _ _ h=>h) (Or.inl ⟨by rfl,?hy6708⟩) trivial ?rest6708
 case hy6708=>(intro w _;(try dsimp only);go_simp;try (with_reducible rfl))
 (try simp only [Act.put,sA,sZ,sS])
 refine wpAnyH_ready (rs:=[3,4]) (by kernel_rfl) (by simp) ?_
 refine AllReadyH.cons (o:=(⟨some 9,_,_,_,_,none⟩:Oper)) rfl (fun K hK=>?_) ?_
 ·go_simp
  go_at_call 138
  refine (HEX.out _ _ _ (bQ (eF.out.get 0 rfl) 32 J7.out) (bQ (eF.out.get 1 rfl) 32 uz.out) (dJ vV.out eF.out.below)).mono ?_
  rintro e y18 ⟨rfl,dP⟩
  have HY18:=abC (eF.out.kept dP)
  clear dP
  (try dsimp only)
  refine hK.out _ _ trivial (fun _=>?_)
  clear hK K
  (try simp only [Act.put,sA,sZ,sS])
  refine pR 4 ⟨some 10,_,_,_,_,none⟩ (fun K hK=>?_)
  go_simp
  rw [HLA.out]
  have rP:=abC (HY18.out.alloc (arr .u8 lit) 5)
  generalize y18.heap.size=gl at rP ⊢
  generalize y18.alloc (.cells (arr .u8 lit) 5)=y19 at rP ⊢
  refine hK.out _ _ trivial (fun _=>?_)
  clear hK K
  (try simp only [Act.put,sA,sZ,sS])
  refine pR 5 ⟨some 11,_,_,_,_,none⟩ (fun K hK=>?_)
  obtain ⟨y20,hrun,hcl,hkp⟩:=Bd y19 gl 4 4 (arr .u8 lit) (rP.out.get 4 rfl)
  have hbe:Below w.heap.size w y20:=⟨hkp.os.trans rP.out.below.os,hkp.tape.trans rP.out.below.tape,hkp.output.trans rP.out.below.output,abI rP.out.below.size hkp.size,fun k hk=>(hkp.block k (abM hk rP.out.below.size) (fun e=>by have:=rP.out.low 4 rfl;omega)).trans (rP.out.below.block k hk)⟩
  have HY20:=abC (bO.grown (r:=some gl) (rP.out.less 4) ⟨hkp.os,hkp.tape,hkp.output,hkp.size,fun k hk hne=>hkp.block k hk (fun e=>hne (by rw [e]))⟩ (by
   intro e he
   have n0:=rP.out.ne 0 4 rfl rfl (by decide)
   have n1:=rP.out.ne 1 4 rfl rfl (by decide)
   have n2:=rP.out.ne 2 4 rfl rfl (by decide)
   have n3:=rP.out.ne 3 4 rfl rfl (by decide)
   simp only [abN,abJ,abG,abH,or_false,abK,abF] at he
   intro e2
   have e3:=Option.some.inj e2
   rcases he with rfl|rfl|rfl|rfl <;> simp only at e3 <;> first|exact n0 e3|exact n1 e3|exact n2 e3|exact n3 e3) hbe)
  have HS20:Hid (Src y20 (some ⟨gl,0,none⟩) 4 lit):=abC (bQ hcl 4 UW.out)
  refine uZ rfl (.slice (some ⟨gl,0,none⟩) 4 4) (vF hrun) ?_
  clear hrun hcl hkp hbe
  refine hK.out _ _ trivial (fun _=>?_)
  clear hK K
  (try simp only [Act.put,sA,sZ,sS])
  refine pR 6 ⟨some 12,_,_,_,_,none⟩ (fun K hK=>?_)
  go_simp
  go_at_call 137
  refine (HXP.out _ _ HS20.out (dJ vV.out HY20.out.below)).mono ?_
  rintro e y21 ⟨gv,cv,rfl,hsv,dP⟩
  have HY21:=abC (HY20.out.kept dP)
  have HSV:=abC hsv
  clear dP hsv
  (try dsimp only)
  refine hK.out _ _ trivial (fun _=>?_)
  clear hK K
  (try simp only [Act.put,sA,sZ,sS])
  refine pR 7 ⟨some 13,_,_,_,_,none⟩ (fun K hK=>?_)
  refine qY rfl (.tmp 6) (.tmp 12) rfl g5 32 32 32 cv ⟨gv,0,none⟩ zn k1 25 rfl rfl (HY21.out.get 3 rfl) HSV.out (abD _) (by rw [dw.out];exact abD _) ?_
  rw [HCP.out]
  intro y22 dP qI
  have HY22:=abC (HY21.out.put 3 rfl qI dP)
  clear dP qI
  refine hK.out _ _ trivial (fun _=>?_)
  clear hK K
  (try simp only [Act.put,sA,sZ,sS])
  refine wpAnyH_done (by kernel_rfl) ?_ _
  (try simp only [Exit.then])
  go_wp2_with (first|((with_reducible refine aS 14 ?_);refine lL rfl rfl (HY22.out.get 3 rfl) rfl (aj _ _) Tryz.underlying25 rfl (bU qJ.out) ?_)|((with_reducible refine aT 4 ?_);refine lS rfl rfl HY22 2 rfl rfl rfl (av _ _ qJ.out dw.out) (bG qJ.out) (ak _ _) ?_;intro w99 HIF))
  (try simp only [Exit.then])
  refine bodyPost_ret (results_cell_row rfl _ _ (w.heap.size+1+1) 25 _ (0,0) _ rfl (HIF.out.get 2 rfl) Tryz.underlying25 rfl (bG qJ.out)) rfl ?_
  exact ⟨rfl,HIF.out.below⟩
 refine AllReadyH.cons (o:=(⟨some 10,_,_,_,_,none⟩:Oper)) rfl (fun K hK=>?_) AllReadyH.nil
 go_simp
 rw [HLA.out]
 have oo:=abC (eF.out.alloc (arr .u8 lit) 5)
 generalize wd.heap.size=gl at oo ⊢
 generalize wd.alloc (.cells (arr .u8 lit) 5)=y23 at oo ⊢
 refine hK.out _ _ trivial (fun _=>?_)
 clear hK K
 (try simp only [Act.put,sA,sZ,sS])
 refine wpAnyH_ready (rs:=[3,5]) (by kernel_rfl) (by simp) ?_
 refine AllReadyH.cons (o:=(⟨some 9,_,_,_,_,none⟩:Oper)) rfl (fun K hK=>?_) ?_
 ·go_simp
  go_at_call 138
  refine (HEX.out _ _ _ (bQ (oo.out.get 0 rfl) 32 J7.out) (bQ (oo.out.get 1 rfl) 32 uz.out) (dJ vV.out oo.out.below)).mono ?_
  rintro e y24 ⟨rfl,dP⟩
  have vT:=abC (oo.out.kept dP)
  clear dP
  (try dsimp only)
  refine hK.out _ _ trivial (fun _=>?_)
  clear hK K
  (try simp only [Act.put,sA,sZ,sS])
  refine pR 5 ⟨some 11,_,_,_,_,none⟩ (fun K hK=>?_)
  obtain ⟨y25,hrun,hcl,hkp⟩:=Bd y24 gl 4 4 (arr .u8 lit) (vT.out.get 4 rfl)
  have hbe:Below w.heap.size w y25:=⟨hkp.os.trans vT.out.below.os,hkp.tape.trans vT.out.below.tape,hkp.output.trans vT.out.below.output,abI vT.out.below.size hkp.size,fun k hk=>(hkp.block k (abM hk vT.out.below.size) (fun e=>by have:=vT.out.low 4 rfl;omega)).trans (vT.out.below.block k hk)⟩
  have HY25:=abC (bO.grown (r:=some gl) (vT.out.less 4) ⟨hkp.os,hkp.tape,hkp.output,hkp.size,fun k hk hne=>hkp.block k hk (fun e=>hne (by rw [e]))⟩ (by
   intro e he
   have n0:=vT.out.ne 0 4 rfl rfl (by decide)
   have n1:=vT.out.ne 1 4 rfl rfl (by decide)
   have n2:=vT.out.ne 2 4 rfl rfl (by decide)
   have n3:=vT.out.ne 3 4 rfl rfl (by decide)
   simp only [abN,abJ,abG,abH,or_false,abK,abF] at he
   intro e2
   have e3:=Option.some.inj e2
   rcases he with rfl|rfl|rfl|rfl <;> simp only at e3 <;> first|exact n0 e3|exact n1 e3|exact n2 e3|exact n3 e3) hbe)
  have HS25:Hid (Src y25 (some ⟨gl,0,none⟩) 4 lit):=abC (bQ hcl 4 UW.out)
  refine uZ rfl (.slice (some ⟨gl,0,none⟩) 4 4) (vF hrun) ?_
  clear hrun hcl hkp hbe
  refine hK.out _ _ trivial (fun _=>?_)
  clear hK K
  (try simp only [Act.put,sA,sZ,sS])
  refine pR 6 ⟨some 12,_,_,_,_,none⟩ (fun K hK=>?_)
  go_simp
  go_at_call 137
  refine (HXP.out _ _ HS25.out (dJ vV.out HY25.out.below)).mono ?_
  rintro e y26 ⟨gv,cv,rfl,hsv,dP⟩
  have HY26:=abC (HY25.out.kept dP)
  have HSV:=abC hsv
  clear dP hsv
  (try dsimp only)
  refine hK.out _ _ trivial (fun _=>?_)
  clear hK K
  (try simp only [Act.put,sA,sZ,sS])
  refine pR 7 ⟨some 13,_,_,_,_,none⟩ (fun K hK=>?_)
  refine qY rfl (.tmp 6) (.tmp 12) rfl g5 32 32 32 cv ⟨gv,0,none⟩ zn k1 25 rfl rfl (HY26.out.get 3 rfl) HSV.out (abD _) (by rw [dw.out];exact abD _) ?_
  rw [HCP.out]
  intro y27 dP qI
  have HY27:=abC (HY26.out.put 3 rfl qI dP)
  clear dP qI
  refine hK.out _ _ trivial (fun _=>?_)
  clear hK K
  (try simp only [Act.put,sA,sZ,sS])
  refine wpAnyH_done (by kernel_rfl) ?_ _
  (try simp only [Exit.then])
  go_wp2_with (first|((with_reducible refine aS 14 ?_);refine lL rfl rfl (HY27.out.get 3 rfl) rfl (aj _ _) Tryz.underlying25 rfl (bU qJ.out) ?_)|((with_reducible refine aT 4 ?_);refine lS rfl rfl HY27 2 rfl rfl rfl (av _ _ qJ.out dw.out) (bG qJ.out) (ak _ _) ?_;intro w99 HIF))
  (try simp only [Exit.then])
  refine bodyPost_ret (results_cell_row rfl _ _ (w.heap.size+1+1) 25 _ (0,0) _ rfl (HIF.out.get 2 rfl) Tryz.underlying25 rfl (bG qJ.out)) rfl ?_
  exact ⟨rfl,HIF.out.below⟩
 refine AllReadyH.cons (o:=(⟨some 11,_,_,_,_,none⟩:Oper)) rfl (fun K hK=>?_) AllReadyH.nil
 obtain ⟨y28,hrun,hcl,hkp⟩:=Bd y23 gl 4 4 (arr .u8 lit) (oo.out.get 4 rfl)
 have hbe:Below w.heap.size w y28:=⟨hkp.os.trans oo.out.below.os,hkp.tape.trans oo.out.below.tape,hkp.output.trans oo.out.below.output,abI oo.out.below.size hkp.size,fun k hk=>(hkp.block k (abM hk oo.out.below.size) (fun e=>by have:=oo.out.low 4 rfl;omega)).trans (oo.out.below.block k hk)⟩
 have HY28:=abC (bO.grown (r:=some gl) (oo.out.less 4) ⟨hkp.os,hkp.tape,hkp.output,hkp.size,fun k hk hne=>hkp.block k hk (fun e=>hne (by rw [e]))⟩ (by
  intro e he
  have n0:=oo.out.ne 0 4 rfl rfl (by decide)
  have n1:=oo.out.ne 1 4 rfl rfl (by decide)
  have n2:=oo.out.ne 2 4 rfl rfl (by decide)
  have n3:=oo.out.ne 3 4 rfl rfl (by decide)
  simp only [abN,abJ,abG,abH,or_false,abK,abF] at he
  intro e2
  have e3:=Option.some.inj e2
  rcases he with rfl|rfl|rfl|rfl <;> simp only at e3 <;> first|exact n0 e3|exact n1 e3|exact n2 e3|exact n3 e3) hbe)
 have HS28:Hid (Src y28 (some ⟨gl,0,none⟩) 4 lit):=abC (bQ hcl 4 UW.out)
 refine uZ rfl (.slice (some ⟨gl,0,none⟩) 4 4) (vF hrun) ?_
 clear hrun hcl hkp hbe
 refine hK.out _ _ trivial (fun _=>?_)
 clear hK K
 (try simp only [Act.put,sA,sZ,sS])
 refine pR 3 ⟨some 9,_,_,_,_,none⟩ (fun K hK=>?_)
 go_simp
 go_at_call 138
 refine (HEX.out _ _ _ (bQ (HY28.out.get 0 rfl) 32 J7.out) (bQ (HY28.out.get 1 rfl) 32 uz.out) (dJ vV.out HY28.out.below)).mono ?_
 rintro e y29 ⟨rfl,dP⟩
 have HY29:=abC (HY28.out.kept dP)
 have HS29:=abC (HS28.out.below dP)
 clear dP
 (try dsimp only)
 refine hK.out _ _ trivial (fun _=>?_)
 clear hK K
 (try simp only [Act.put,sA,sZ,sS])
 refine pR 6 ⟨some 12,_,_,_,_,none⟩ (fun K hK=>?_)
 go_simp
 go_at_call 137
 refine (HXP.out _ _ HS29.out (dJ vV.out HY29.out.below)).mono ?_
 rintro e y30 ⟨gv,cv,rfl,hsv,dP⟩
 have HY30:=abC (HY29.out.kept dP)
 have HSV:=abC hsv
 clear dP hsv
 (try dsimp only)
 refine hK.out _ _ trivial (fun _=>?_)
 clear hK K
 (try simp only [Act.put,sA,sZ,sS])
 refine pR 7 ⟨some 13,_,_,_,_,none⟩ (fun K hK=>?_)
 refine qY rfl (.tmp 6) (.tmp 12) rfl g5 32 32 32 cv ⟨gv,0,none⟩ zn k1 25 rfl rfl (HY30.out.get 3 rfl) HSV.out (abD _) (by rw [dw.out];exact abD _) ?_
 rw [HCP.out]
 intro y31 dP qI
 have HY31:=abC (HY30.out.put 3 rfl qI dP)
 clear dP qI
 refine hK.out _ _ trivial (fun _=>?_)
 clear hK K
 (try simp only [Act.put,sA,sZ,sS])
 refine wpAnyH_done (by kernel_rfl) ?_ _
 (try simp only [Exit.then])
 go_wp2_with (first|((with_reducible refine aS 14 ?_);refine lL rfl rfl (HY31.out.get 3 rfl) rfl (aj _ _) Tryz.underlying25 rfl (bU qJ.out) ?_)|((with_reducible refine aT 4 ?_);refine lS rfl rfl HY31 2 rfl rfl rfl (av _ _ qJ.out dw.out) (bG qJ.out) (ak _ _) ?_;intro w99 HIF))
 (try simp only [Exit.then])
 refine bodyPost_ret (results_cell_row rfl _ _ (w.heap.size+1+1) 25 _ (0,0) _ rfl (HIF.out.get 2 rfl) Tryz.underlying25 rfl (bG qJ.out)) rfl ?_
 exact ⟨rfl,HIF.out.below⟩
end Go.Proofs.YthdgbgleklkaiaaGreatDoor.Wr
namespace Go.Proofs.YthdgbgleklkaiaaGreatDoor.Rd
open Go.RowKit Lm Fp Cu
theorem JK (w:World):(Instr.build 25 #[]).run Tryz.prog w = .ok (.agg (arr .u8 (abL 32 0))) w:=by kernel_rfl
theorem Rx:(abL 32 0:List Int)=aW (bD 256 32 0):=by decide +kernel
theorem Nl {a b:Nat} (ha:a < 256 ^ 32) (hb:b < 256 ^ 32):(aW (bD 256 32 a) == aW (bD 256 32 b))=decide (a=b):=by
 by_cases e:a=b
 ·subst e;simp
 ·rw [decide_eq_false e,beq_eq_false_iff_ne]
  intro h
  have h3:bD 256 32 a=bD 256 32 b:=by
   have:=congrArg (List.map Int.toNat) h
   have e:∀ l:List Nat,(aW l).map Int.toNat=l:=fun l=>by rw [aW,List.map_map];exact List.map_id l
   rwa [e,e] at this
  have h4:=congrArg (val 256) h3
  rw [yV a ha,yV b hb] at h4
  exact e h4
theorem WY:(abL 32 (0:Int)).set 0 9=aW (bD 256 32 9):=by decide +kernel
theorem Ja (k:Nat) (w:World) (hk:k < 2 ^ 256) :
  Calls Tryz.prog 59 #[.agg (arr .u8 (aW (bD 256 32 k)))] w fun e w'=>e = .returned (.agg (arr .u8 (aW (bD 256 32 (bZ k 9)))))∧Below w.heap.size w w':=by
 have hl:=fun w=>Af k 9 w hk (by decide)
 obtain ⟨ks,hks⟩:∃ x,x=aW (bD 256 32 k):=⟨_,rfl⟩
 have lH:Hid (ks.length=32):=abC (by rw [hks,aG,aK])
 obtain ⟨us,Qs⟩:∃ x,x=aW (bD 256 32 9):=⟨_,rfl⟩
 have Ke:Hid (us.length=32):=abC (by rw [Qs,aG,aK])
 obtain ⟨rs,hrs⟩:∃ x,x=aW (bD 256 32 (bZ k 9)):=⟨_,rfl⟩
 have iR:Hid (rs.length=32):=abC (by rw [hrs,aG,aK])
 rw [← hks,← Qs,← hrs] at hl
 rw [← hks,← hrs]
 have HL:=abC hl
 obtain ⟨zn,hzn,dB,dw⟩:=zN zero_num
 have HN9:Hid (zn.set 0 9=us):=abC (by rw [hzn,Qs];exact WY)
 have bW:=abC (bO.two w (arr .u8 ks) (arr .u8 zn) 25 25)
 clear hzn hl hks Qs hrs
 go_enter Tryz.func59, Tryz.ntmps59
 go_upto_region 1 with (first|((with_reducible refine aS 2 ?_);refine ah rfl 25 rfl _ (dB.out _) ?_))
 (try simp only [World.size_alloc,Act.put,sA,sZ,sS])
 generalize ((w.alloc (.cells (arr .u8 ks) 25)).alloc (.cells (arr .u8 zn) 25))=wb at bW ⊢
 go_upto_region 2 with (first|((with_reducible refine aS 3 ?_);refine lA rfl rfl (dB.out _) bW ?_;intro g3 w1 iY))
 have q0:=aP (iY.out.get 2 rfl) 0 (by rw [dw.out];decide)
 have q1:=aC (iY.out.get 2 rfl) 0
 have hb1:=iY.out.cell 2 rfl 0 (.int .u8 9)
 have e2:(arr .u8 zn).setIfInBounds 0 (.int .u8 9)=arr .u8 us:=by rw [bq,HN9.out]
 have HS2:=abC (hb1.cast (l':=[(w.heap.size,arr .u8 ks, 25),(w.heap.size+1,arr .u8 zn, 25),(g3,arr .u8 us, 25)]) (by rw [← e2];rfl))
 clear hb1 e2
 go_wp2_with (first|((with_reducible refine aS 5 ?_);refine lL rfl rfl (HS2.out.get 0 rfl) rfl (aj _ _) Tryz.underlying25 rfl (bU lH.out) ?_)|((with_reducible refine aS 6 ?_);refine lL rfl rfl (HS2.out.get 2 rfl) rfl (aj _ _) Tryz.underlying25 rfl (bU Ke.out) ?_)|((with_reducible show Calls _ 99 _ _ _);go_at_call 99; refine lC (HL.out _) HS2 ?_;intro w6 mH)|((with_reducible refine aT 2 ?_);refine lS rfl rfl mH 1 rfl rfl rfl (av _ _ iR.out dw.out) (bG iR.out) (ak _ _) ?_;intro w7 fC))
 (try simp only [Exit.then])
 refine bodyPost_ret (results_cell_row rfl _ _ (w.heap.size+1) 25 _ (0,0) _ rfl (fC.out.get 1 rfl) Tryz.underlying25 rfl (bG iR.out)) rfl ?_
 exact ⟨rfl,fC.out.below⟩
theorem KF (k u:Nat) (w:World) (hk:k < 2 ^ 256) (hu:u < 2 ^ 256) :
  Calls Tryz.prog 84 #[.agg (arr .u8 (aW (bD 256 32 k))), .agg (arr .u8 (aW (bD 256 32 u)))] w fun e w'=>e = .returned (.tuple #[.agg (arr .u8 (aW (bD 256 32 (bZ k u)))), .int .i64 (if bZ k u=0 then 21 else 0)])∧Below w.heap.size w w':=by
 have hl:=fun w=>Af k u w hk hu
 have hz:=Nl (Nat.lt_trans (uN k u) KX) (show 0 < 256 ^ 32 by decide)
 obtain ⟨ks,hks⟩:∃ x,x=aW (bD 256 32 k):=⟨_,rfl⟩
 have lH:Hid (ks.length=32):=abC (by rw [hks,aG,aK])
 obtain ⟨us,Qs⟩:∃ x,x=aW (bD 256 32 u):=⟨_,rfl⟩
 have Ke:Hid (us.length=32):=abC (by rw [Qs,aG,aK])
 obtain ⟨rs,hrs⟩:∃ x,x=aW (bD 256 32 (bZ k u)):=⟨_,rfl⟩
 have iR:Hid (rs.length=32):=abC (by rw [hrs,aG,aK])
 rw [← hks,← Qs,← hrs] at hl
 rw [← hrs] at hz
 rw [← hks,← Qs,← hrs]
 obtain ⟨zn,hzn,dB,dw⟩:=zN zero_num
 rw [← Rx,← hzn] at hz
 have HL:=abC hl
 have HZ:=abC hz
 have HBN:Hid (∀ w,(Instr.build 25 #[]).run Tryz.prog w = .ok (.agg (arr .u8 zn)) w):=abC (by intro w;rw [hzn];exact JK w)
 have bW:=abC (bO.three w (arr .u8 ks) (arr .u8 us) (arr .u8 zn) 25 25 25)
 obtain ⟨er,her⟩:∃ e:Int,e=(if bZ k u=0 then 21 else 0):=⟨_,rfl⟩
 have HER:=abC her
 rw [← her]
 clear hzn hl hz hks Qs hrs her
 go_enter Tryz.func84, Tryz.ntmps84
 go_upto_region 1 with (first|((with_reducible refine aS 4 ?_);refine ah rfl 25 rfl _ (dB.out _) ?_))
 (try simp only [World.size_alloc,Act.put,sA,sZ,sS])
 generalize (((w.alloc (.cells (arr .u8 ks) 25)).alloc (.cells (arr .u8 us) 25)).alloc (.cells (arr .u8 zn) 25))=wb at bW ⊢
 go_upto_region 2 with (first|((with_reducible refine aS 7 ?_);refine lL rfl rfl (bW.out.get 0 rfl) rfl (aj _ _) Tryz.underlying25 rfl (bU lH.out) ?_)|((with_reducible refine aS 8 ?_);refine lL rfl rfl (bW.out.get 1 rfl) rfl (aj _ _) Tryz.underlying25 rfl (bU Ke.out) ?_)|((with_reducible show Calls _ 99 _ _ _);go_at_call 99; refine lC (HL.out _) bW ?_;intro w6 mH)|((with_reducible refine aS 6 ?_);refine lA rfl rfl (dB.out _) mH ?_;intro gz w7 fC)|((with_reducible refine aT 6 ?_);refine lS rfl rfl fC 3 rfl rfl rfl (av _ _ iR.out dw.out) (bG iR.out) (ak _ _) ?_;intro w8 gu))
 by_cases hx:bZ k u=0
 ·have hzz:=HZ.out
  rw [decide_eq_true hx] at hzz
  have HZZ:=abC hzz
  have he:=HER.out
  rw [if_pos hx] at he
  subst he
  clear hzz
  go_wp2_with (first|((with_reducible refine aS 10 ?_);refine lL rfl rfl (gu.out.get 3 rfl) rfl (aj _ _) Tryz.underlying25 rfl (bU iR.out) ?_)|((with_reducible refine aS 11 ?_);refine wpList_build (by rfl) 25 _ rfl #[] rfl _ (HBN.out _) ?_)|((with_reducible refine aS 12 ?_);refine iD (by rfl) 25 _ _ (.tmp 10) (.tmp 11) rfl 32 .u8 .u8 Tryz.underlying25 Tryz.underlying5 (fun w=>by kernel_rfl) (by kernel_rfl) rs zn rfl rfl iR.out dw.out true HZZ.out ?_)|((with_reducible refine aS 13 ?_);refine lL rfl rfl (gu.out.get 3 rfl) rfl (aj _ _) Tryz.underlying25 rfl (bU iR.out) ?_)|((with_reducible refine aT 4 ?_);refine lS rfl rfl gu 2 rfl rfl rfl (av _ _ iR.out dw.out) (bG iR.out) (ak _ _) ?_;intro w9 oN))
  (try simp only [Exit.then])
  refine bodyPost_ret (aN rfl _ _ (w.heap.size+1+1) 25 _ (0,0) _ _ rfl (oN.out.get 2 rfl) Tryz.underlying25 rfl (bG iR.out) rfl) rfl ?_
  exact ⟨rfl,oN.out.below⟩
 ·have hzz:=HZ.out
  rw [decide_eq_false hx] at hzz
  have HZZ:=abC hzz
  have he:=HER.out
  rw [if_neg hx] at he
  subst he
  clear hzz
  go_wp2_with (first|((with_reducible refine aS 10 ?_);refine lL rfl rfl (gu.out.get 3 rfl) rfl (aj _ _) Tryz.underlying25 rfl (bU iR.out) ?_)|((with_reducible refine aS 11 ?_);refine wpList_build (by rfl) 25 _ rfl #[] rfl _ (HBN.out _) ?_)|((with_reducible refine aS 12 ?_);refine iD (by rfl) 25 _ _ (.tmp 10) (.tmp 11) rfl 32 .u8 .u8 Tryz.underlying25 Tryz.underlying5 (fun w=>by kernel_rfl) (by kernel_rfl) rs zn rfl rfl iR.out dw.out false HZZ.out ?_)|((with_reducible refine aS 14 ?_);refine lL rfl rfl (gu.out.get 3 rfl) rfl (aj _ _) Tryz.underlying25 rfl (bU iR.out) ?_)|((with_reducible refine aT 4 ?_);refine lS rfl rfl gu 2 rfl rfl rfl (av _ _ iR.out dw.out) (bG iR.out) (ak _ _) ?_;intro w9 oN))
  (try simp only [Exit.then])
  refine bodyPost_ret (aN rfl _ _ (w.heap.size+1+1) 25 _ (0,0) _ _ rfl (oN.out.get 2 rfl) Tryz.underlying25 rfl (bG iR.out) rfl) rfl ?_
  exact ⟨rfl,oN.out.below⟩
end Go.Proofs.YthdgbgleklkaiaaGreatDoor.Rd
namespace Go.Proofs.YthdgbgleklkaiaaGreatDoor.Wr
open Go.RowKit Lm Cu Sl Fp
theorem Ny (w:World):(Instr.build 135 #[]).run Tryz.prog w = .ok (.agg (arr .u8 (abL 12 0))) w:=by kernel_rfl
theorem R6 {ts ds xs:List Int} (T D:Nat) (w:World) (hT:NU ts T) (hD:NU ds D) (hx:xs.length=32) (bx:bytes xs) (hk:Ha.eP w) :
  Calls Tryz.prog 58 #[.agg (arr .u8 ts), .agg (arr .u8 ds), .agg (arr .u8 xs)] w fun e w'=>(∃ sa c,e = .returned (.tuple #[.slice sa (Co T D xs).length c, .int .i64 (RH T D)])∧Src w' sa (Co T D xs).length (Co T D xs)∧(Co T D xs).length≤c)∧Below w.heap.size w w':=by
 have p256:(256:Nat) ^ 32=2 ^ 256:=by decide
 have Tw:T < 2 ^ 256:=by rw [← p256];exact hT.2
 have hD2:D < 2 ^ 256:=by rw [← p256];exact hD.2
 have hpb2:∀ u:World,Calls Tryz.prog 59 #[.agg (arr .u8 ds)] u fun e w'=>e = .returned (.agg (arr .u8 (n32 (bZ D 9))))∧Below u.heap.size u w':=by
  intro u
  rw [hD.1]
  exact Rd.Ja D u hD2
 have Js:∀ u:World,Calls Tryz.prog 84 #[.agg (arr .u8 ds), .agg (arr .u8 ts)] u fun e w'=>e = .returned (.tuple #[.agg (arr .u8 (n32 (bZ D T))), .int .i64 (RH T D)])∧Below u.heap.size u w':=by
  intro u
  rw [hD.1,hT.1]
  exact Rd.KF D T u hD2 Tw
 obtain ⟨es,hes⟩:∃ x,x=n32 (bZ D 9):=⟨_,rfl⟩
 obtain ⟨zs,hzs⟩:∃ x,x=n32 (bZ D T):=⟨_,rfl⟩
 rw [← hes] at hpb2
 rw [← hzs] at Js
 have hel:es.length=32:=by rw [hes];exact cK _
 have hzl:zs.length=32:=by rw [hzs];exact cK _
 have bes:bytes es:=by rw [hes];exact eY _
 have bzs:bytes zs:=by rw [hzs];exact eY _
 have bts:bytes ts:=by rw [hT.1];exact eY T
 have hwk:=fun (u:World) (h:Ha.eP u)=>ED es zs u hel hzl bes bzs h
 obtain ⟨kv,hkv⟩:∃ x,x=Ii es zs:=⟨_,rfl⟩
 have hkl:kv.length=32:=by rw [hkv];exact sM _ _
 have bkv:bytes kv:=by rw [hkv];exact Kv _ _
 have hsd:sealed T D xs=Ae.lN kv n0 xs ts:=by rw [sealed,← hes,← hzs,← hkv,show n32 T=ts from hT.1.symm]
 have hsl:=zC T D xs hx
 rw [← hkv] at hwk
 have hse:∀ (u:World) (g1 g2:Addr),Src u (some g1) 32 xs→Src u (some g2) 32 ts→Calls Tryz.prog 98 #[.agg (arr .u8 kv), .agg (arr .u8 n0), .slice (some g1) 32 32, .slice (some g2) 32 32] u fun e w'=>∃ (a:Addr) (c:Nat),e = .returned (.slice (some a) 48 c)∧Src w' (some a) 48 (sealed T D xs)∧Below u.heap.size u w':=by
  intro u g1 g2 h1 h2
  refine (Ae.Dj kv n0 xs ts (some g1) (some g2) 32 32 32 32 u hkl n0_len bkv Xa h1 h2 bts (by decide) (by decide)).mono ?_
  rintro e w' ⟨v,rfl,ho,hb⟩
  rw [← hsd] at ho
  obtain ⟨sa,c,rfl, -, -, h3,hor⟩:=ho.form
  rw [hsl] at h3 ⊢
  rcases hor with ⟨-, h0, -⟩|⟨g,rfl, -, -⟩
  ·rw [h0] at hsl;exact absurd hsl (by decide)
  ·exact ⟨_,c,rfl,h3,hb⟩
 obtain ⟨SL,hSL⟩:∃ x,x=sealed T D xs:=⟨_,rfl⟩
 rw [← hSL] at hse hsl
 have hwr:Co T D xs=if bZ D T=0 then [] else es ++ SL:=by rw [Co,← hes,← hSL]
 have hwe:RH T D=if bZ D T=0 then 21 else 0:=rfl
 obtain ⟨we,hwee⟩:∃ x,x=RH T D:=⟨_,rfl⟩
 rw [← hwee] at Js hwe ⊢
 obtain ⟨wl,hwl⟩:∃ x,x=Co T D xs:=⟨_,rfl⟩
 rw [← hwl] at hwr ⊢
 obtain ⟨nv,FY⟩:∃ x,x=n0:=⟨_,rfl⟩
 rw [← FY] at hse
 have HN0L:Hid (nv.length=12):=abC (by rw [FY];rfl)
 have HBN:Hid (∀ w,(Instr.build 135 #[]).run Tryz.prog w = .ok (.agg (arr .u8 nv)) w):=abC (by intro w;rw [FY];exact Ny w)
 have HPB:=abC hpb2
 have UK:=abC Js
 have HWK:=abC hwk
 have Gp:=abC hse
 have J7:=abC hel
 have uz:=abC hzl
 have HKVL:=abC hkl
 have Al:=abC hsl
 have uD:=abC hT.len
 have yQ:=abC hD.len
 have jc:=abC hx
 have vV:=abC hk
 obtain ⟨zn,hzn,dB,dw⟩:=zN zero_num
 have HI0:=abC (bO.three w (arr .u8 ts) (arr .u8 ds) (arr .u8 xs) 25 25 25)
 have HWR:=abC hwr
 have HWE:=abC hwe
 clear p256 Tw hD2 hpb2 Js hes hzs hel hzl bes bzs bts hwk hkv hkl bkv hsd hsl hse hSL hwr hwe hwee hwl FY hzn hT hD hx bx hk
 go_enter Tryz.func58, Tryz.ntmps58
 go_upto_region 1 with fail
 (try simp only [World.size_alloc,Act.put,sA,sZ,sS])
 generalize (((w.alloc (.cells (arr .u8 ts) 25)).alloc (.cells (arr .u8 ds) 25)).alloc (.cells (arr .u8 xs) 25))=wb at HI0 ⊢
 go_upto_region 2 with (first|((with_reducible refine aS 11 ?_);refine lL rfl rfl (HI0.out.get 1 rfl) rfl (aj _ _) Tryz.underlying25 rfl (bU yQ.out) ?_)|((with_reducible show Calls _ 59 _ _ _);go_at_call 59; refine lC (HPB.out _) HI0 ?_;intro w1 HI1)|((with_reducible refine aS 8 ?_);refine lA rfl rfl (dB.out _) HI1 ?_;intro g8 w2 HI2)|((with_reducible refine aT 8 ?_);refine lS rfl rfl HI2 3 rfl rfl rfl (av _ _ J7.out dw.out) (bG J7.out) (ak _ _) ?_;intro w3 HI3))
 (try simp only [World.size_alloc,Act.put,sA,sZ,sS])
 go_upto_region 3 with (first|((with_reducible refine aS 14 ?_);refine lL rfl rfl (HI3.out.get 1 rfl) rfl (aj _ _) Tryz.underlying25 rfl (bU yQ.out) ?_)|((with_reducible refine aS 15 ?_);refine lL rfl rfl (HI3.out.get 0 rfl) rfl (aj _ _) Tryz.underlying25 rfl (bU uD.out) ?_)|((with_reducible show Calls _ 84 _ _ _);go_at_call 84; refine lC (UK.out _) HI3 ?_;intro w4 HI4)|((with_reducible refine aS 9 ?_);refine lA rfl rfl (dB.out _) HI4 ?_;intro g9 w5 HI5)|((with_reducible refine aT 9 ?_);refine lS rfl rfl HI5 4 rfl rfl rfl (av _ _ uz.out dw.out) (bG uz.out) (ak _ _) ?_;intro w6 HI6))
 (try simp only [World.size_alloc,Act.put,sA,sZ,sS])
 by_cases hz:bZ D T=0
 ·have e1:=HWE.out
  have e2:=HWR.out
  rw [if_pos hz] at e1 e2
  subst e1 e2
  clear HWE HWR
  go_wp2_with fail
  (try simp only [Exit.then])
  go_ret2
  exact ⟨⟨none,0,rfl,⟨rfl,fun i hi=>absurd hi (by simp)⟩,abD _⟩,HI6.out.below⟩
 ·have e1:=HWE.out
  have e2:=HWR.out
  rw [if_neg hz] at e1 e2
  subst e1
  have qV:Hid (wl=es ++ SL):=abC e2
  clear e2 HWE HWR hz
  go_upto_region 5 with fail
  (try simp only [World.size_alloc,Act.put,sA,sZ,sS])
  have d9:=abC ((Kept.refl (fun _=>False) w6).drew)
  have eF:=abC (HI6.out.drew)
  refine wp_region_held_drew (S:=(fun w'=>Kept (fun _=>False) w6 w')) (by kernel_rfl) (d9.out) (fun hHeld=>?_)
  generalize w6.drew=wd at d9 eF hHeld ⊢
  refine pT 0 ⟨some 22,_,_,_,_,none⟩ (.slice (some ⟨g8,0,none⟩) 32 32) ?_
  (try simp only [Act.put,sA,sZ,sS])
  refine' wpAnyH_take (i:=2) (oi:=(⟨some 24,_,_,_,_,none⟩:Oper)) (v:=_) rfl (by kernel_rfl) (by kernel_rfl) (by kernel_rfl) (fun _ _ _ h=>h) (yieldsIf_load_mid (by rfl) _ _ rfl _ _ rfl (es.map (Value.int .u8)) _ ?hS6902 Tryz.underlying25 rfl (by rw [abE];exact bU J7.out)) (by assumption) ?rest6902
  case hS6902=>(intro w hSw;(try dsimp only at hSw);exact aO (hSw.blk (HI6.out.get 3 rfl) (fun e=>e.elim)) 0 _ (by rw [abE];exact aj _ _))
  (try simp only [Act.put,sA,sZ,sS])
  refine' wpAnyH_take (i:=3) (oi:=(⟨some 25,_,_,_,_,none⟩:Oper)) (v:=_) rfl (by kernel_rfl) (by kernel_rfl) (by kernel_rfl) (fun _ _ _ h=>h) (yieldsIf_load_mid (by rfl) _ _ rfl _ _ rfl (zs.map (Value.int .u8)) _ ?hS6903 Tryz.underlying25 rfl (by rw [abE];exact bU uz.out)) (by assumption) ?rest6903
  case hS6903=>(intro w hSw;(try dsimp only at hSw);exact aO (hSw.blk (HI6.out.get 4 rfl) (fun e=>e.elim)) 0 _ (by rw [abE];exact aj _ _))
  (try simp only [Act.put,sA,sZ,sS])
  refine wpAnyH_take (i:=5) (oi:=(⟨some 27,_,_,_,_,none⟩:Oper)) (v := .agg (arr .u8 nv)) rfl (by kernel_rfl) (by kernel_rfl) (by kernel_rfl) (fun _ _ _ h=>h) (Or.inl ⟨by rfl,?hy6904⟩) (by assumption) ?rest6904
  case hy6904=>(intro w hSw;(try dsimp only at hSw);exact nU 135 _ rfl #[] rfl _ (HBN.out _))
  (try simp only [Act.put,sA,sZ,sS])
  refine pT 6 ⟨some 28,_,_,_,_,none⟩ (.slice (some ⟨w.heap.size+1+1,0,none⟩) 32 32) ?_
  (try simp only [Act.put,sA,sZ,sS])
  refine pT 7 ⟨some 29,_,_,_,_,none⟩ (.slice (some ⟨w.heap.size,0,none⟩) 32 32) ?_
  (try simp only [Act.put,sA,sZ,sS])
  refine pR 1 ⟨some 23,_,_,_,_,none⟩ (fun K hK=>?_)
  refine fM rfl (.const (.slice none 0 0)) (.tmp 22) rfl wd.heap.size _ [] rfl (aU.nil _ _) _ 32 32 es rfl (bQ (eF.out.get 3 rfl) 32 J7.out) (by decide) (abD _) ?_
  rw [abF]
  intro vb y32 how hgr _ _
  have dP:=aZ (aU.nil wd wd.heap.size) hgr (Below.refl _ _) (abD _)
  have HY32:=abC (eF.out.kept dP)
  have HQ32:=abC (d9.out.trans (Kept.of_below dP))
  have HOA:Hid (aU y32 wd.heap.size vb es):=abC how
  have Bw:Hid (∀ g,g < wd.heap.size→∀ k,vb.ownBlock=some k→g≠k):=abC (fun g hg k h=>by have:=(how.lt k h).1;omega)
  have nC:Hid (w.heap.size < wd.heap.size∧w.heap.size+1 < wd.heap.size∧w.heap.size+1+1 < wd.heap.size∧g8 < wd.heap.size∧g9 < wd.heap.size):=abC ⟨eF.out.lt 0 rfl,eF.out.lt 1 rfl,eF.out.lt 2 rfl,eF.out.lt 3 rfl,eF.out.lt 4 rfl⟩
  have HWS:Hid (wd.heap.size≤y32.heap.size):=abC dP.size
  have qK:Hid (Below w.heap.size w wd∧w6.heap.size≤wd.heap.size):=abC ⟨eF.out.below,d9.out.size⟩
  generalize wd.heap.size=bsz at HOA Bw nC HWS qK
  clear how hgr dP
  refine hK.out _ _ (HQ32.out) (fun hHeld=>?_)
  clear hK K
  (try simp only [Act.put,sA,sZ,sS])
  refine pR 4 ⟨some 26,_,_,_,_,none⟩ (fun K hK=>?_)
  go_simp
  go_at_call 86
  refine (HWK.out _ (dJ vV.out HY32.out.below)).mono ?_
  rintro e y33 ⟨rfl,dP⟩
  have HY33:=abC (HY32.out.kept dP)
  have HQ33:=abC (HQ32.out.trans (Kept.of_below dP))
  have HOB:=abC (HOA.out.below dP)
  have HWT:=abC (abI HWS.out dP.size)
  clear dP
  (try dsimp only)
  refine hK.out _ _ (HQ33.out) (fun hHeld=>?_)
  clear hK K
  (try simp only [Act.put,sA,sZ,sS])
  refine pR 8 ⟨some 30,_,_,_,_,none⟩ (fun K hK=>?_)
  go_simp
  go_at_call 98
  refine (Gp.out _ _ _ (bQ (HY33.out.get 2 rfl) 32 jc.out) (bQ (HY33.out.get 0 rfl) 32 uD.out)).mono ?_
  rintro e y34 ⟨a7,c7,rfl,hs7,dP⟩
  have HY34:=abC (HY33.out.kept dP)
  have HQ34:=abC (HQ33.out.trans (Kept.of_below dP))
  have HOC:=abC (HOB.out.below dP)
  have HWU:=abC (abI HWT.out dP.size)
  have HS7:=abC hs7
  clear hs7
  clear dP
  (try dsimp only)
  refine hK.out _ _ (HQ34.out) (fun hHeld=>?_)
  clear hK K
  (try simp only [Act.put,sA,sZ,sS])
  refine pR 9 ⟨some 31,_,_,_,_,none⟩ (fun K hK=>?_)
  refine fM rfl (.tmp 23) (.tmp 30) rfl bsz vb es rfl HOC.out (some a7) 48 c7 SL rfl HS7.out (by rw [J7.out];decide) HWU.out ?_
  intro vf y35 how hgr _ _
  have hbe:Below w.heap.size w y35:=aZ (HOC.out.mono (Nat.le_of_lt nC.out.1)) hgr HY34.out.below HY34.out.below.size
  have HY35:=abC (bO.grown HY34.out hgr (by
   intro e he e2
   have h5:=Bw.out e.1
   obtain ⟨l0,l1,l2,l3,l4⟩:=nC.out
   simp only [abJ,abG,abH,or_false,abK,abF,List.set] at he
   rcases he with rfl|rfl|rfl|rfl|rfl
   ·exact h5 l0 _ e2.symm rfl
   ·exact h5 l1 _ e2.symm rfl
   ·exact h5 l2 _ e2.symm rfl
   ·exact h5 l3 _ e2.symm rfl
   ·exact h5 l4 _ e2.symm rfl) hbe)
  have HQ35:Hid (Kept (fun _=>False) w6 y35):=abC (HQ34.out.bS (T:=fun _=>False) (T':=fun x=>vb.ownBlock=some x) ⟨hgr.os,hgr.tape,hgr.output,hgr.size,fun k hk hne=>hgr.block k hk (fun e=>hne e.symm)⟩ (fun i hi e=>absurd ((HOC.out.lt i e).1) (by have:=qK.out.2;omega)))
  have HOF:=abC how
  clear how hgr hbe
  refine hK.out _ _ (HQ35.out) (fun hHeld=>?_)
  clear hK K
  (try simp only [Act.put,sA,sZ,sS])
  refine wpAnyH_take (i:=10) (oi:=(⟨some 6,_,_,_,_,none⟩:Oper)) (v:=vf) rfl (by kernel_rfl) (by kernel_rfl) (by kernel_rfl) (fun _ _ _ h=>h) (Or.inl ⟨by rfl,?hy6907⟩) (by assumption) ?rest6907
  case hy6907=>(intro w hSw;(try dsimp only at hSw);first|rfl|kernel_rfl)
  (try simp only [Act.put,sA,sZ,sS])
  refine wpAnyH_take (i:=11) (oi:=(⟨some 7,_,_,_,_,none⟩:Oper)) (v := .int .i64 0) rfl (by kernel_rfl) (by kernel_rfl) (by kernel_rfl) (fun _ _ _ h=>h) (Or.inl ⟨by rfl,?hy6908⟩) (by assumption) ?rest6908
  case hy6908=>(intro w hSw;(try dsimp only at hSw);first|rfl|kernel_rfl)
  (try simp only [Act.put,sA,sZ,sS])
  refine wpAnyH_done (by kernel_rfl) ?_ _
  (try simp only [Exit.then])
  go_wp2_with fail
  (try simp only [Exit.then])
  obtain ⟨sf,cf,rfl,hcf, -, hsf, -⟩:=HOF.out.form
  have hlen:(es ++ SL).length=wl.length:=by rw [qV.out]
  rw [hlen] at hsf hcf ⊢
  go_ret2
  refine ⟨⟨sf,cf,rfl,?_,hcf⟩,HY35.out.below⟩
  have:=hsf
  rwa [← qV.out] at this
end Go.Proofs.YthdgbgleklkaiaaGreatDoor.Wr
