/- The document's small, stopText, certText, PackStop: The document's tag. Condition: as each theorem says. -/

import Derived.Test.YthdgbgleklkaiaaGreatDoorQc29
open Go.Lib renaming hid→abC
open List renaming replicate→abD,length_append→abF,length_replicate→abG,length_map→abH,nil_append→abL
open Nat renaming le_refl→abE
set_option linter.unusedSimpArgs false
set_option linter.unusedVariables false
set_option maxRecDepth 100000
set_option maxHeartbeats 16000000
namespace Go.Proofs.YthdgbgleklkaiaaGreatDoor.Ce
open Go.RowKit Lm Fp Cu Sl Sc
theorem gX (id:Int) (w:World):Calls Tryz.prog 87 #[.int .i64 id] w fun e w'=>e = .returned (.bool (xJ id))∧w=w':=by
 go_enter Tryz.func87, Tryz.ntmps87
 go_wp2_with fail
 all_goals (try simp only [Exit.then])
 ·go_ret
  rename_i h
  refine ⟨?_,rfl⟩
  rw [xJ,decide_eq_true h,Bool.true_and]
  rfl
 ·go_ret
  rename_i h
  refine ⟨?_,rfl⟩
  rw [xJ,decide_eq_false (by omega),Bool.false_and]
  rfl
theorem Gd {ks:List Int} (id:Int) (key:Nat) (w:World) (hk:NU ks key) (hi : -9223372036854775808≤id∧id≤9223372036854775807):Calls Tryz.prog 97 #[.int .i64 id, .agg (arr .u8 ks)] w fun e w'=>∃ v,e = .returned v∧aU w' w.heap.size v (oF id key)∧Below w.heap.size w w':=by
 have hn:n32 key=ks:=hk.1.symm
 have hpl:(iH [80,67,67,84] [id]).length=12:=by rw [gG];rfl
 rw [oF,hn]
 obtain ⟨T,hT⟩:∃ T,T=iH [80,67,67,84] [id]:=⟨_,rfl⟩
 have hint:∀ (u:World) (g h:Nat),Src u (some ⟨g,0,none⟩) 4 [80,67,67,84]→Br u (some ⟨h,0,none⟩) 1 [id]→Calls Tryz.prog 92 #[.slice (some ⟨g,0,none⟩) 4 4, .slice (some ⟨h,0,none⟩) 1 1] u fun e w'=>∃ v,e = .returned v∧aU w' u.heap.size v T∧Below u.heap.size u w':=by
  intro u g h h1 h2
  rw [hT]
  exact sW (some ⟨g,0,none⟩) (some ⟨h,0,none⟩) 4 4 1 1 _ _ u h1 h2 (by decide) (by decide) (by intro y hy;simp at hy;subst hy;exact hi)
 rw [← hT] at hpl ⊢
 have HINT:=abC hint
 have Og:=abC hpl
 have lH:=abC hk.len
 have Gm:Hid (Src (w.alloc (.cells (arr .u8 ks) 25)) (some ⟨w.heap.size,0,none⟩) 32 ks):=abC (bQ (aH w _) 32 hk.len)
 have qK:Hid (Below w.heap.size w (w.alloc (.cells (arr .u8 ks) 25))):=abC ((Below.refl _ w).alloc (abE _) _)
 have nC:Hid (w.heap.size < (w.alloc (.cells (arr .u8 ks) 25)).heap.size):=abC (by simp)
 clear hint hpl hk hn hT hi
 go_enter Tryz.func97, Tryz.ntmps97
 go_upto_region 1 with fail
 generalize w.alloc (.cells (arr .u8 ks) 25)=wb at Gm qK nC ⊢
 refine oP (fun f u=>Below wb.heap.size wb u
  ∧ (∀ v,f 0=some v→∃ g,v = .slice (some ⟨g,0,none⟩) 4 4∧(f 4=none→wb.heap.size≤g∧u.heap[g]? = some (.cells (Aa 80 67 67 84) 5 (if (f 1).isSome then (4,5) else (0,0))))∧∀ x,f 1=some x→x=v)
  ∧ (∀ v,f 2=some v→v = .int .i64 id)
  ∧ (∀ v,f 3=some v→∃ g,v = .slice (some ⟨g,0,none⟩) 1 1∧(f 4=none→wb.heap.size≤g∧u.heap[g]? = some (.cells #[.int .i64 id] 3 (0,0))))
  ∧ (∀ v,f 4=some v→f 6=none→aU u wb.heap.size v T)
  ∧ (∀ v,f 5=some v→v = .slice (some ⟨w.heap.size,0,none⟩) 32 32)
  ∧ (∀ v,f 6=some v→aU u wb.heap.size v (T ++ ks))
  ∧ (∀ v,f 7=some v→f 6=some v)) (by kernel_rfl) (by kernel_rfl) ?z1 ?s1 ?e1
 case z1=>exact ⟨(Below.refl _ wb).drew,fun _ h=>(by cases h),fun _ h=>(by cases h),fun _ h=>(by cases h),fun _ h=>(by cases h),fun _ h=>(by cases h),fun _ h=>(by cases h),fun _ h=>(by cases h)⟩
 case s1 =>
  refine dN.cons (fun f b u K hJ hf hc hu hs hK=>?_) ?_
  ·obtain ⟨hb,j0,j2,j3,j4,j5,j6,j7⟩:=hJ
   have f1:f 1=none:=hc.down 1 0 (by kernel_rfl) hf
   have f4:f 4=none:=hc.down 4 1 (by kernel_rfl) f1
   have dP:Below u.heap.size u (u.alloc (.cells (Aa 80 67 67 84) 5)):=(Below.refl _ u).alloc (abE _) _
   refine FL rfl (.slice (some ⟨u.heap.size,0,none⟩) 4 4) (u':=u.alloc (.cells (Aa 80 67 67 84) 5)) (by first|rfl|kernel_rfl) (hK _ _ ⟨hb.trans (dP.mono hb.size),?_,?_,?_,?_,?_,?_,?_⟩)
   ·intro v h
    simp only [Fill.upd,if_pos,Option.some.injEq] at h
    subst h
    refine ⟨_,rfl,fun _=>⟨hb.size,?_⟩,fun x hx=>?_⟩
    ·rw [show (f.upd 0 (.slice (some ⟨u.heap.size,0,none⟩) 4 4)) 1=none from f1]
     exact aH u _
    ·rw [show (f.upd 0 (.slice (some ⟨u.heap.size,0,none⟩) 4 4)) 1=none from f1] at hx
     cases hx
   ·exact fun v h=>j2 v h
   ·intro v h
    obtain ⟨g,rfl,h2⟩:=j3 v h
    exact ⟨g,rfl,fun k=>⟨(h2 k).1,Below.blk dP (h2 k).2 (aV (h2 k).2)⟩⟩
   ·exact fun v h k=>(j4 v h k).below dP
   ·exact fun v h=>j5 v h
   ·exact fun v h=>(j6 v h).below dP
   ·exact fun v h=>j7 v h
  refine dN.cons (fun f b u K hJ hf hc hu hs hK=>?_) ?_
  ·obtain ⟨hb,j0,j2,j3,j4,j5,j6,j7⟩:=hJ
   have f4:f 4=none:=hc.down 4 1 (by kernel_rfl) hf
   have f6:f 6=none:=hc.down 6 4 (by kernel_rfl) f4
   obtain ⟨v0,h0⟩:=sE (hu 0 (by kernel_rfl))
   obtain ⟨g,rfl,hg, -⟩:=j0 v0 h0
   obtain ⟨hg0,hg1⟩:=hg f4
   rw [hf] at hg1
   have e0:b.eval (.tmp 5) = .slice (some ⟨g,0,none⟩) 4 4:=hs.val 0 5 rfl h0
   obtain ⟨u9,hr9,hg9,qI⟩:=Ub u g 4 4 (Aa 80 67 67 84) hg1
   have dP:Below wb.heap.size u u9:=⟨qI.os,qI.tape,qI.output,qI.size,fun k hk=>qI.block k (Nat.lt_of_lt_of_le hk hb.size) (by omega)⟩
   refine FL rfl (.slice (some ⟨g,0,none⟩) 4 4) (u':=u9) (by simp only [execOp,e0];exact QM hr9) (hK _ _ ⟨hb.trans dP,?_,?_,?_,?_,?_,?_,?_⟩)
   ·intro v h
    have h:f 0=some v:=h
    rw [h0] at h
    cases h
    refine ⟨g,rfl,fun _=>⟨hg0,hg9⟩,fun x hx=>?_⟩
    simp only [Fill.upd,if_pos,Option.some.injEq] at hx
    exact hx.symm
   ·exact fun v h=>j2 v h
   ·intro v h
    obtain ⟨g3,rfl,h2⟩:=j3 v h
    refine ⟨g3,rfl,fun k=>⟨(h2 f4).1,qI.blk (h2 f4).2 (fun e=>?_)⟩⟩
    have e:g3=g:=e
    subst e
    have:=(h2 f4).2
    rw [hg1] at this
    simp [Aa] at this
   ·intro v h k
    rw [show (f.upd 1 (.slice (some ⟨g,0,none⟩) 4 4)) 4=none from f4] at h
    cases h
   ·exact fun v h=>j5 v h
   ·intro v h
    rw [show (f.upd 1 (.slice (some ⟨g,0,none⟩) 4 4)) 6=none from f6] at h
    cases h
   ·exact fun v h=>j7 v h
  refine dN.cons (fun f b u K hJ hf hc hu hs hK=>?_) ?_
  ·obtain ⟨hb,j0,j2,j3,j4,j5,j6,j7⟩:=hJ
   have e0:b.eval (.tmp 0) = .int .i64 id:=hs.old' 0 (by kernel_rfl) rfl
   refine eG rfl (.int .i64 id) (by simp only [execOp,e0] <;> first|rfl|kernel_rfl) (hK _ _ ⟨hb,fun v h=>j0 v h,?_,fun v h=>j3 v h,fun v h=>j4 v h,fun v h=>j5 v h,fun v h=>j6 v h,fun v h=>j7 v h⟩)
   exact fun v h=>(by simp only [Fill.upd,if_pos,Option.some.injEq] at h;exact h.symm)
  refine dN.cons (fun f b u K hJ hf hc hu hs hK=>?_) ?_
  ·obtain ⟨hb,j0,j2,j3,j4,j5,j6,j7⟩:=hJ
   have f4:f 4=none:=hc.down 4 3 (by kernel_rfl) hf
   obtain ⟨v2,h2⟩:=sE (hu 2 (by kernel_rfl))
   obtain rfl:=j2 v2 h2
   have e2:b.eval (.tmp 7) = .int .i64 id:=hs.val 2 7 rfl h2
   have dP:Below u.heap.size u (u.alloc (.cells #[.int .i64 id] 3)):=(Below.refl _ u).alloc (abE _) _
   refine FL rfl (.slice (some ⟨u.heap.size,0,none⟩) 1 1) (u':=u.alloc (.cells #[.int .i64 id] 3)) (by simp only [execOp,List.map_toArray,List.map_cons,List.map_nil,e2] <;> first|rfl|kernel_rfl) (hK _ _ ⟨hb.trans (dP.mono hb.size),?_,?_,?_,?_,?_,?_,?_⟩)
   ·intro v h
    obtain ⟨g,rfl,h3,h4⟩:=j0 v h
    exact ⟨g,rfl,fun k=>⟨(h3 k).1,Below.blk dP (h3 k).2 (aV (h3 k).2)⟩,h4⟩
   ·exact fun v h=>j2 v h
   ·intro v h
    simp only [Fill.upd,if_pos,Option.some.injEq] at h
    subst h
    exact ⟨_,rfl,fun _=>⟨hb.size,aH u _⟩⟩
   ·exact fun v h k=>(j4 v h k).below dP
   ·exact fun v h=>j5 v h
   ·exact fun v h=>(j6 v h).below dP
   ·exact fun v h=>j7 v h
  refine dN.cons (fun f b u K hJ hf hc hu hs hK=>?_) ?_
  ·obtain ⟨hb,j0,j2,j3,j4,j5,j6,j7⟩:=hJ
   have f6:f 6=none:=hc.down 6 4 (by kernel_rfl) hf
   obtain ⟨v1,h1⟩:=sE (hu 1 (by kernel_rfl))
   obtain ⟨v0,h0⟩:=sE (hc.up 1 0 (by kernel_rfl) (by rw [h1];rfl))
   obtain ⟨g,rfl,hg,hx⟩:=j0 v0 h0
   obtain rfl:=hx v1 h1
   obtain ⟨v3,h3⟩:=sE (hu 3 (by kernel_rfl))
   obtain ⟨g3,rfl,hg3⟩:=j3 v3 h3
   have e1:b.eval (.tmp 6) = .slice (some ⟨g,0,none⟩) 4 4:=hs.val 1 6 rfl h1
   have e3:b.eval (.tmp 8) = .slice (some ⟨g3,0,none⟩) 1 1:=hs.val 3 8 rfl h3
   refine fQ rfl 92 [.tmp 6, .tmp 8] _ [.slice (some ⟨g,0,none⟩) 4 4, .slice (some ⟨g3,0,none⟩) 1 1] rfl (by simp only [List.map_cons,List.map_nil,e1,e3] <;> rfl) (fun _ _=>by kernel_rfl) ?_
   refine Calls.mono (HINT.out u g g3 (src4 (hg hf).2) (VU (hg3 hf).2)) ?_
   rintro e w1 ⟨v,rfl,ho,dP⟩
   refine ⟨v,rfl,hK _ _ ⟨hb.trans (dP.mono hb.size),?_,fun v h=>j2 v h,?_,?_,fun v h=>j5 v h,?_,fun v h=>j7 v h⟩⟩
   ·intro v' h
    obtain ⟨g',e', -, h4⟩:=j0 v' h
    exact ⟨g',e',fun k=>(by simp [Fill.upd] at k),h4⟩
   ·intro v' h
    obtain ⟨g',e', -⟩:=j3 v' h
    exact ⟨g',e',fun k=>(by simp [Fill.upd] at k)⟩
   ·intro v' h _
    simp only [Fill.upd,if_pos,Option.some.injEq] at h
    subst h
    exact ho.mono hb.size
   ·intro v' h
    rw [show (f.upd 4 v) 6=none from f6] at h
    cases h
  refine dN.cons (fun f b u K hJ hf hc hu hs hK=>?_) ?_
  ·obtain ⟨hb,j0,j2,j3,j4,j5,j6,j7⟩:=hJ
   have e0:b.eval (.tmp 3) = .pointer (some ⟨w.heap.size,0,none⟩):=hs.old' 3 (by kernel_rfl) rfl
   refine eG rfl (.slice (some ⟨w.heap.size,0,none⟩) 32 32) (by simp only [execOp,e0,Option.map_none] <;> first|rfl|kernel_rfl|(go_simp;done)) (hK _ _ ⟨hb,fun v h=>j0 v h,fun v h=>j2 v h,fun v h=>j3 v h,fun v h=>j4 v h,?_,fun v h=>j6 v h,fun v h=>j7 v h⟩)
   exact fun v h=>(by simp only [Fill.upd,if_pos,Option.some.injEq] at h;exact h.symm)
  refine dN.cons (fun f b u K hJ hf hc hu hs hK=>?_) ?_
  ·obtain ⟨hb,j0,j2,j3,j4,j5,j6,j7⟩:=hJ
   have f7:f 7=none:=hc.down 7 6 (by kernel_rfl) hf
   obtain ⟨v4,h4⟩:=sE (hu 4 (by kernel_rfl))
   have ho:=j4 v4 h4 hf
   obtain ⟨v5,h5⟩:=sE (hu 5 (by kernel_rfl))
   obtain rfl:=j5 v5 h5
   have e4:b.eval (.tmp 9)=v4:=hs.val 4 9 rfl h4
   have e5:b.eval (.tmp 10) = .slice (some ⟨w.heap.size,0,none⟩) 32 32:=hs.val 5 10 rfl h5
   refine fM rfl (.tmp 9) (.tmp 10) rfl wb.heap.size v4 T e4 ho (some ⟨w.heap.size,0,none⟩) 32 32 ks e5 (Gm.out.below hb) (by rw [Og.out];decide) hb.size ?_
   intro v2 w2 ho2 hg2 hn2 hq2
   have dP:Below wb.heap.size wb w2:=aZ ho hg2 hb hb.size
   refine hK _ _ ⟨dP,?_,fun v h=>j2 v h,?_,?_,fun v h=>j5 v h,?_,?_⟩
   ·intro v' h
    obtain ⟨g',e', -, h4'⟩:=j0 v' h
    exact ⟨g',e',fun k=>(by have k:f 4=none:=k;rw [h4] at k;cases k),h4'⟩
   ·intro v' h
    obtain ⟨g',e', -⟩:=j3 v' h
    exact ⟨g',e',fun k=>(by have k:f 4=none:=k;rw [h4] at k;cases k)⟩
   ·exact fun v' h k=>(by simp [Fill.upd] at k)
   ·intro v' h
    simp only [Fill.upd,if_pos,Option.some.injEq] at h
    subst h
    exact ho2
   ·intro v' h
    rw [show (f.upd 6 v2) 7=none from f7] at h
    cases h
  refine dN.cons (fun f b u K hJ hf hc hu hs hK=>?_) ?_
  ·obtain ⟨hb,j0,j2,j3,j4,j5,j6,j7⟩:=hJ
   obtain ⟨v6,h6⟩:=sE (hu 6 (by kernel_rfl))
   have e6:b.eval (.tmp 11)=v6:=hs.val 6 11 rfl h6
   refine eG rfl v6 (by simp only [execOp,e6] <;> first|rfl|kernel_rfl) (hK _ _ ⟨hb,fun v h=>j0 v h,fun v h=>j2 v h,fun v h=>j3 v h,fun v h k=>j4 v h k,fun v h=>j5 v h,fun v h=>j6 v h,?_⟩)
   intro v' h
   simp only [Fill.upd,if_pos,Option.some.injEq] at h
   subst h
   exact h6
  exact dN.nil
 case e1 =>
  intro f u hall hJ
  obtain ⟨hb,j0,j2,j3,j4,j5,j6,j7⟩:=hJ
  obtain ⟨v0,h0⟩:=sE (hall 0 (by decide))
  obtain ⟨v1,h1⟩:=sE (hall 1 (by decide))
  obtain ⟨v2,h2⟩:=sE (hall 2 (by decide))
  obtain ⟨v3,h3⟩:=sE (hall 3 (by decide))
  obtain ⟨v4,h4⟩:=sE (hall 4 (by decide))
  obtain ⟨v5,h5⟩:=sE (hall 5 (by decide))
  obtain ⟨v6,h6⟩:=sE (hall 6 (by decide))
  obtain ⟨v7,h7⟩:=sE (hall 7 (by decide))
  have e7:=j7 v7 h7
  rw [h6] at e7
  cases e7
  have HO:=abC (j6 v6 h6)
  have HB:=abC hb
  simp only [laid,h0,h1,h2,h3,h4,h5,h6,h7,Nat.reduceAdd,Act.put,sA,sZ,sS]
  clear j0 j2 j3 j4 j5 j6 j7 hb h0 h1 h2 h3 h4 h5 h6 h7 hall
  (try simp only [Exit.then])
  go_wp2_with fail
  go_ret
  exact ⟨_,rfl,HO.out.mono (Nat.le_of_lt nC.out),qK.out.trans (HB.out.mono (Nat.le_of_lt nC.out))⟩
end Go.Proofs.YthdgbgleklkaiaaGreatDoor.Ce
namespace Go.Proofs.YthdgbgleklkaiaaGreatDoor.Ae
open Go.RowKit Lm Po Ch
theorem zr_add (a b:Nat) (h:a % 16=0):zr (a+b)=zr b:=by unfold zr;omega
theorem zr_full (a:Nat):(a+zr a) % 16=0:=by unfold zr;omega
theorem msg_ref (beside c:List Int):((((beside ++ abD (zr beside.length) 0) ++ c) ++ abD (zr ((beside ++ abD (zr beside.length) 0) ++ c).length) 0) ++ FP beside.length) ++ FP c.length=msg beside c:=by
 have h:zr ((beside ++ abD (zr beside.length) 0) ++ c).length=zr c.length:=by
  rw [abF,abF,abG]
  exact zr_add _ _ (zr_full _)
 rw [h,msg]
 simp only [List.append_assoc]
theorem NJ (xs:List Int) (hl:xs.length=16):(Tryz.prog.info? 177).map (·.size)=some (arr .u8 xs).size:=by rw [aD,hl];kernel_rfl
theorem arrSig (xs:List Int) (hl:xs.length=64):(Tryz.prog.info? 27).map (·.size)=some (arr .u8 xs).size:=by rw [aD,hl];kernel_rfl
theorem B3.of_below {w wr w':World} {c0 c1 c2:Array Value} {t0 t1 t2:TypeId} {B b:Nat} (h:B3 w wr c0 c1 c2 t0 t1 t2) (h1:b < B) (h2:w.heap.size+1+1 < b) (k:Below B wr w'):B3 w w' c0 c1 c2 t0 t1 t2 :=
 ⟨Below.blk k h.b0 (by omega),Below.blk k h.b1 (by omega),Below.blk k h.b2 (by omega),h.below.trans (k.mono (by omega))⟩
theorem Wn (key aM c beside:List Int) (sc sb:Option Addr) (n1 n2 c1 c2:Nat) (w:World) (hk:key.length=32) (hn:aM.length=12) (bk:bytes key) (bn:bytes aM) (hc:Src w sc n1 c) (hb:Src w sb n2 beside) (bc:bytes c) (bb:bytes beside) (l1:n1≤274877906944) (l2:n2≤274877906944) :
  Calls Tryz.prog 135 #[.agg (arr .u8 key), .agg (arr .u8 aM), .slice sc n1 c1, .slice sb n2 c2] w fun e w'=>e = .returned (.agg (arr .u8 (tag key aM c beside)))∧Below w.heap.size w w':=by
 have hcl:=hc.len
 have hbl:=hb.len
 obtain ⟨zt,Ci⟩:∃ zs:List Int,zs=abD 16 0:=⟨_,rfl⟩
 have hyt:∀ w,(zeroValue 177).run Tryz.prog w = .ok (.agg (arr .u8 zt)) w:=by intro w;rw [Ci];exact Pj w
 have Je:zt.length=16:=by rw [Ci];rfl
 obtain ⟨zb,hzb⟩:∃ zs:List Int,zs=abD 32 0:=⟨_,rfl⟩
 have hyb:∀ w,(zeroValue 25).run Tryz.prog w = .ok (.agg (arr .u8 zb)) w:=by intro w;rw [hzb];exact zero32' w
 have hzbl:zb.length=32:=by rw [hzb];rfl
 obtain ⟨zg,hzg⟩:∃ zs:List Int,zs=abD 64 0:=⟨_,rfl⟩
 have hyg:∀ w,(zeroValue 27).run Tryz.prog w = .ok (.agg (arr .u8 zg)) w:=by intro w;rw [hzg];exact zero64 w
 have hzgl:zg.length=64:=by rw [hzg];rfl
 have M1:=fun w=>nN key aM 0 w hk hn bk bn
 rw [show (0:Int) % 4294967296=0 from rfl] at M1
 have X6:=msg_ref beside c
 rw [hbl,hcl] at X6
 obtain ⟨tg,Qt⟩:∃ x,x=tag key aM c beside:=⟨_,rfl⟩
 have tgl:tg.length=16:=by rw [Qt,xW]
 obtain ⟨bl,Yj⟩:∃ x,x=block key 0 aM:=⟨_,rfl⟩
 have bll:bl.length=64:=by rw [Yj,qE]
 have blb:bytes bl:=by rw [Yj];exact JJ _ _ _
 obtain ⟨M,hM⟩:∃ x,x=msg beside c:=⟨_,rfl⟩
 have mb:bytes M:=by rw [hM];exact Ur bb bc
 have ml:M.length≤1099511627776:=by rw [hM];have:=msg_len beside c;omega
 obtain ⟨k32,X9⟩:∃ x,x=bl.take 32:=⟨_,rfl⟩
 have k32l:k32.length=32:=by rw [X9,List.length_take];omega
 have k32b:bytes k32:=by rw [X9];exact nY blb 32
 have htg2:aW (KC (toN k32) (toN M))=tg:=by rw [Qt,tag,X9,Yj,hM]
 have M5:=fun sa n cap w hs hn=>WH sa n cap (toN k32) (toN M) w hs (toN_lt mb) (by rw [toN_len];exact k32l) (toN_lt k32b) hn
 rw [toN_nar mb,toN_nar k32b,htg2] at M5
 rw [← hM] at X6
 rw [← Yj] at M1
 rw [← Qt]
 have S0:=B3.start w (arr .u8 key) (arr .u8 aM) (arr .u8 zt) 25 135 177
 obtain ⟨cs,hcs⟩:∃ cs,cs=k32.map (Value.int .u8):=⟨_,rfl⟩
 have csl:cs.length=32:=by rw [hcs,abH,k32l]
 have cso:∀ v∈cs,v.oneCell'=true:=by rw [hcs];intro v hv;obtain ⟨y,_,rfl⟩:=List.mem_map.1 hv;rfl
 have hsp:(Go.splice (zb.map (Value.int .u8)) 0 cs).toArray=arr .u8 k32:=by
  unfold Go.splice arr
  rw [List.take_zero,abL,Nat.zero_add,csl,List.drop_of_length_le (by rw [abH,hzbl];exact abE _),List.append_nil,hcs]
 have hrg:∀ (w':World) (g:Nat),w'.heap[g]? = some (.cells (arr .u8 bl) 27 (0,0))→∀ j v,cs[j]? = some v→w'.cell? (Addr.add ⟨g,0,none⟩ j)=some v:=by
  intro w' g hg j v hj
  have:=aO hg 0 cs (by rw [csl,List.drop_zero,bN,← List.map_take,← X9,hcs])
  have e:Addr.add ⟨g,0,none⟩ j=⟨g,0+j,none⟩:=by
   unfold Addr.add
   split
   ·rename_i h0;rw [h0]
   ·rfl
  rw [e]
  exact this j v hj
 obtain ⟨xa,hxa⟩:∃ x,x=beside ++ abD (zr beside.length) 0:=⟨_,rfl⟩
 obtain ⟨xb,hxb⟩:∃ x,x=xa ++ c:=⟨_,rfl⟩
 obtain ⟨xc,hxc⟩:∃ x,x=xb ++ abD (zr xb.length) 0:=⟨_,rfl⟩
 obtain ⟨xd,hxd⟩:∃ x,x=xc ++ FP n2:=⟨_,rfl⟩
 have hz1:zr beside.length < 16:=Nat.mod_lt _ (by decide)
 have hz2:zr xb.length < 16:=Nat.mod_lt _ (by decide)
 have xal:xa.length≤n2+16:=by rw [hxa,abF,abG];omega
 have xbl:xb.length≤n1+n2+16:=by rw [hxb,abF];omega
 have xcl:xc.length≤n1+n2+32:=by rw [hxc,abF,abG];omega
 have xdl:xd.length≤n1+n2+40:=by rw [hxd,abF,nT];omega
 rw [← hbl,← hxa,← hxb,← hxc,hbl,← hxd] at X6
 have XA:=abC hxa.symm
 have XB:=abC hxb.symm
 have XC:=abC hxc.symm
 have XD:=abC hxd.symm
 have XE:=abC X6
 have XAL:=abC xal
 have XBL:=abC xbl
 have XCL:=abC xcl
 have XDL:=abC xdl
 clear hxa hxb hxc hxd hz1 hz2 xal xbl xcl xdl
 have bW:=abC S0
 have HK:=abC hk
 have HN:=abC hn
 have HC:=abC hc
 have HB:=abC hb
 have mF:=abC hcl
 have qM:=abC hbl
 have HYT:=abC hyt
 have HZT:=abC Je
 have HYB:=abC hyb
 have HZB:=abC hzbl
 have HYG:=abC hyg
 have HZG:=abC hzgl
 have Em:=abC M1
 have HM5:=abC M5
 have U1:=abC tgl
 have BLL:=abC bll
 have ML:=abC ml
 have K32L:=abC k32l
 have CSL:=abC csl
 have CSO:=abC cso
 have HSP:=abC hsp
 have HRG:=abC hrg
 clear S0 hk hn hc hb hcl hbl hyt Je hyb hzbl hyg hzgl M1 M5 X6 tgl bll ml k32l csl cso hsp hrg Ci hzb hzg Qt Yj blb hM mb X9 k32b htg2 bk bn bc bb hcs
 go_enter Tryz.func135, Tryz.ntmps135
 go_wp2_with (first|((with_reducible refine aS 8 ?_);refine ah rfl 177 rfl _ (HYT.out _) ?_)|((with_reducible refine aS 12 ?_);refine aB rfl 25 _ rfl w.heap.size 0 _ 25 (0,0) _ bW.out.b0 rfl .u8 key (aj _ _) Tryz.underlying25 rfl (by rw [HK.out];exact qZ) ?_)|((with_reducible refine aS 13 ?_);refine aB rfl 135 _ rfl (w.heap.size+1) 0 _ 135 (0,0) _ bW.out.b1 rfl .u8 aM (aj _ _) Tryz.underlying135 rfl (by rw [HN.out];exact uR) ?_)|((with_reducible show Calls _ _ _ _ _);go_at_call 180; refine (Em.out _).mono ?_;rintro e w1 ⟨rfl,hbw⟩;have HB1:=abC (bW.out.after hbw);have hl1:=aV HB1.out.b2;clear hbw)|((with_reducible refine aS 9 ?_);refine ah rfl 27 rfl _ (HYG.out _) ?_;go_simp)|((with_reducible refine aT 9 ?_);refine au rfl 27 _ _ rfl w1.heap.size _ _ 27 (aH _ _) rfl rfl (by rw [aD,aD,BLL.out,HZG.out]) (arrSig bl BLL.out) (ak _ _) ?_;intro w2 hb2 hk2 hz2;have HB2:=abC ((HB1.out.alloc (.cells (arr .u8 zg) 27)).TT hk2 (by rintro i rfl;omega));have HG2:=abC hb2;have hl2:=aV hb2;clear hb2 hk2 hz2)|((with_reducible refine aS 10 ?_);refine ah rfl 25 rfl _ (HYB.out _) ?_))
 have HB3:=abC (HB2.out.alloc (.cells (arr .u8 zb) 25)).drew
 have HG3:Hid ((w2.alloc (.cells (arr .u8 zb) 25)).drew.heap[w1.heap.size]? = some (.cells (arr .u8 bl) 27 (0,0))):=abC (aY HG2.out (.cells (arr .u8 zb) 25))
 have HO3:Hid ((w2.alloc (.cells (arr .u8 zb) 25)).drew.heap[w2.heap.size]? = some (.cells (arr .u8 zb) 25 (0,0))):=abC (aH w2 (.cells (arr .u8 zb) 25))
 (try simp only [Act.put])
 go_still_tail 2,(by kernel_rfl)
 change wpList _ _ _ _ _ (w2.alloc (.cells (arr .u8 zb) 25)).drew
 generalize (w2.alloc (.cells (arr .u8 zb) 25)).drew=w3 at HB3 HG3 HO3 ⊢
 go_wp2_with (first|((with_reducible refine aS 17 ?_);refine wpList_copy_splice rfl (.tmp 15) (.tmp 16) 22 22 rfl 5 Tryz.underlying22 nL _ _ _ _ _ _ rfl rfl w2.heap.size 0 (zb.map (Value.int .u8)) 25 HO3.out cs (by rw [CSL.out];rfl) (fun _=>⟨rfl,⟨w1.heap.size,0,none⟩,rfl,HRG.out _ _ HG3.out⟩) (by rw [CSL.out,abH,HZB.out];omega) CSO.out w2.heap.size w3 (Below.refl _ _) (abE _) ?_;intro w4 hb4 hw4;have hb4':=hb4.out;rw [HSP.out] at hb4';have HO4:=abC hb4';have ou:=abC (B3.of_below HB3.out hl2 hl1 hw4);have hl4:=aV hb4';clear hb4 hb4' hw4)|((with_reducible refine aS 19 ?_);refine aX rfl _ _ rfl w4.heap.size (.slice none 0 0) [] rfl (aU.nil _ _) sb n2 c2 beside rfl (HB.out.below ou.out.below) (by simp;omega) (abE _) ?_;intro v5 w5 ho5 hg5 hn5 ha5;rw [abL] at ho5;have UO:=abC ho5;have HW5:=abC ((Below.refl w4.heap.size w4).grown hg5 (abE _) (fun k hk=>by cases hk));clear ho5 hg5 hn5 ha5)|((with_reducible show Calls _ _ _ w5 _);go_at_call 181; refine (AZ w4.heap.size v5 beside w5 UO.out HW5.out.size (by rw [qM.out];omega)).mono ?_;rintro e w6 ⟨v6,rfl,xM,Lr⟩;rw [XA.out] at xM;have Gr:=abC xM;have UF:=abC (HW5.out.trans Lr);clear xM Lr)|((with_reducible refine aS 23 ?_);refine aX rfl _ _ rfl w4.heap.size v6 xa rfl Gr.out sc n1 c1 c rfl ((HC.out.below ou.out.below).below UF.out) (by have:=XAL.out;omega) UF.out.size ?_;intro v7 w7 ho7 hg7 hn7 ha7;have hw7:=aZ Gr.out hg7 UF.out UF.out.size;rw [XB.out] at ho7;have HO7:=abC ho7;have HW7:=abC hw7;clear ho7 hg7 hn7 ha7 hw7)|((with_reducible show Calls _ _ _ w7 _);go_at_call 181; refine (AZ w4.heap.size v7 xb w7 HO7.out HW7.out.size (by have:=XBL.out;omega)).mono ?_;rintro e w8 ⟨v8,rfl,ho8,hw8⟩;rw [XC.out] at ho8;have HO8:=abC ho8;have HW8:=abC (HW7.out.trans hw8);clear ho8 hw8)|((with_reducible show Calls _ _ _ w8 _);go_at_call 182; refine (Ab n2 (by omega) w8).mono ?_;rintro e w9 ⟨v9,rfl,ho9,J9⟩;obtain ⟨s9,c9,hv9, -, -, hs9, -⟩:=ho9.form;rw [nT] at hv9 hs9;subst hv9;have HS9:=abC hs9;have HO9:=abC (HO8.out.below J9);have Ak:=abC (HW8.out.trans (J9.mono HW8.out.size));clear ho9 J9 hs9)|((with_reducible refine aS 29 ?_);refine aX rfl _ _ rfl w4.heap.size v8 xc rfl HO9.out s9 8 c9 (FP n2) rfl HS9.out (by have:=XCL.out;omega) Ak.out.size ?_;intro va wa hoa hga hna haa;have hwa:=aZ HO9.out hga Ak.out Ak.out.size;rw [XD.out] at hoa;have HOa:=abC hoa;have HWa:=abC hwa;clear hoa hga hna haa hwa)|((with_reducible show Calls _ _ _ wa _);go_at_call 182; refine (Ab n1 (by omega) wa).mono ?_;rintro e wb ⟨vb,rfl,Ka,hwb⟩;obtain ⟨sb',cb,hvb, -, -, hsb, -⟩:=Ka.form;rw [nT] at hvb hsb;subst hvb;have HSb:=abC hsb;have HOb:=abC (HOa.out.below hwb);have HWb:=abC (HWa.out.trans (hwb.mono HWa.out.size));clear Ka hwb hsb)|((with_reducible refine aS 33 ?_);refine aX rfl _ _ rfl w4.heap.size va xd rfl HOb.out sb' 8 cb (FP n1) rfl HSb.out (by have:=XDL.out;omega) HWb.out.size ?_;intro vc wc hoc hgc hnc hac;have hwc:=aZ HOb.out hgc HWb.out HWb.out.size;rw [XE.out] at hoc;obtain ⟨sm,cm,hvm, -, -, hsm, -⟩:=hoc.form;subst hvm;have UJ:=abC hsm;have HWc:=abC hwc;have HBc:=abC (ou.out.after hwc);have HOc:=abC (Below.blk hwc HO4.out hl4);clear hoc hgc hnc hac hwc hsm)|((with_reducible refine aS 34 ?_);refine aB rfl 25 _ rfl w2.heap.size 0 _ 25 (0,0) _ HOc.out rfl .u8 k32 (aj _ _) Tryz.underlying25 rfl (by rw [K32L.out];exact qZ) ?_)|((with_reducible show Calls _ _ _ wc _);go_at_call 183; refine (HM5.out _ _ _ _ UJ.out ML.out).mono ?_;rintro e wd ⟨rfl,hbw⟩;have eF:=abC (HBc.out.after hbw);clear hbw)|((with_reducible refine aT 8 ?_);refine au rfl 177 _ _ rfl (w.heap.size+1+1) _ _ 177 eF.out.b2 rfl rfl (by rw [aD,aD,U1.out,HZT.out]) (NJ tg U1.out) (ak _ _) ?_;intro we hbe hke iO;have HBe:=abC (eF.out.put2 hke hbe);clear hbe hke iO))
 (try simp only [Exit.inBlock,Exit.then])
 refine bodyPost_ret (results_cell_row rfl _ _ (w.heap.size+1+1) 177 _ (0,0) _ rfl HBe.out.b2 Tryz.underlying177 rfl (NJ tg U1.out)) rfl ?_
 exact ⟨rfl,HBe.out.below⟩
end Go.Proofs.YthdgbgleklkaiaaGreatDoor.Ae
