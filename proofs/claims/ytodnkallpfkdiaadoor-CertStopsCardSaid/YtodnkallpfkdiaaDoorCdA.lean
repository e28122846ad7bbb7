/- The document's small, stopText, certText, PackStop: what they answer. Condition: a signature's 64 bytes. -/
import Derived.Test.YtodnkallpfkdiaaDoorCeG
import Derived.Test.YtodnkallpfkdiaaDoorMy
set_option maxRecDepth 100000
set_option maxHeartbeats 16000000
set_option linter.unusedSimpArgs false
set_option linter.unusedVariables false
namespace Go.Proofs.YtodnkallpfkdiaaDoor.Ce
open Go.RowKit Lm Fp Cu Sl Sc
theorem small_any (id:Int) (w:World):Calls Tryd.prog 48 #[.int .i64 id] w fun e w'=>e = .returned (.bool (okI id))∧w=w':=by
 go_enter Tryd.func48, Tryd.ntmps48
 go_wp2_with fail
 all_goals (try simp only [Exit.then])
 ·go_ret
  rename_i h
  refine ⟨?_,rfl⟩
  rw [okI,decide_eq_true h,Bool.true_and]
  rfl
 ·go_ret
  rename_i h
  refine ⟨?_,rfl⟩
  rw [okI,decide_eq_false (by omega),Bool.false_and]
  rfl
theorem stopText_any (id:Int) (w:World) (hi : -9223372036854775808≤id∧id≤9223372036854775807):Calls Tryd.prog 65 #[.int .i64 id] w fun e w'=>∃ v,e = .returned v∧Own8 w' w.heap.size v (stopT id)∧Below w.heap.size w w':=by
 have kc:=conv4 w 80 67 83 84
 obtain ⟨wc,hwc⟩:∃ x,x=w.alloc (.cells (lit4 80 67 83 84) 5 (4,5)):=⟨_,rfl⟩
 have hzc:wc.heap.size=w.heap.size+1:=by rw [hwc];simp
 have hbw:Below w.heap.size w (wc.alloc (.cells #[.int .i64 id] 3)):=by rw [hwc];exact ((Below.refl _ w).alloc (Nat.le_refl _) _).alloc (by simp) _
 have hm:=rint_any (some ⟨w.heap.size,0,none⟩) (some ⟨wc.heap.size,0,none⟩) 4 4 1 1 [80,67,83,84] [id] (wc.alloc (.cells #[.int .i64 id] 3))
  ((by rw [hwc];exact src4 (blk_new w _):Src wc (some ⟨w.heap.size,0,none⟩) 4 [80,67,83,84]).below ((Below.refl _ _).alloc (Nat.le_refl _) _)) (srcI_one _ id) (by omega) (by omega) (by intro y hy;simp at hy;subst hy;exact hi)
 rw [show packL [80,67,83,84] [id]=stopT id from rfl] at hm
 rw [← hwc] at kc
 have HM:=Lib.hid hm
 have HB:=Lib.hid hbw
 clear hm hbw hzc hi hwc
 unfold lit4 at kc
 go_enter Tryd.func65, Tryd.ntmps65
 go_wp2_with (first|((with_reducible show Calls _ 49 _ _ _);go_at_call 49; refine HM.out.mono ?_;rintro e w2 ⟨v,rfl,ho,hb⟩;have HO:=Lib.hid (ho.mono (B':=w.heap.size) HB.out.size);have HE:=Lib.hid (HB.out.trans (hb.mono HB.out.size));clear ho hb))
 all_goals (try simp only [Exit.then])
 go_ret
 exact ⟨_,rfl,HO.out,HE.out⟩
theorem rpackStop_any {gs:List Int} (id:Int) (w:World) (hg:gs.length=64) (hi : -9223372036854775808≤id∧id≤9223372036854775807) :
  Calls Tryd.prog 35 #[.agg (stopC id gs)] w fun e w'=>∃ v,e = .returned (.tuple #[v, .int .i64 (if okI id then 0 else 1)])∧Own8 w' w.heap.size v (if okI id then stopT id ++ gs else [])∧Below w.heap.size w w':=by
 have hst:=stopT_len id
 obtain ⟨T,hT⟩:∃ T,T=stopT id:=⟨_,rfl⟩
 have hbo:∀ u:World,Calls Tryd.prog 65 #[.int .i64 id] u fun e w'=>∃ v,e = .returned v∧Own8 w' u.heap.size v T∧Below u.heap.size u w':=by
  intro u
  rw [hT]
  exact stopText_any id u hi
 rw [← hT] at hst ⊢
 have hm:=fun w=>small_any id w
 have hc0:(w.alloc (.cells (stopC id gs) 52)).cell? ⟨w.heap.size,0,none⟩=some (.int .i64 id):=by rw [cell_blk (blk_new w _)];exact stopC_id id gs
 have hsr:Src (w.alloc (.cells (stopC id gs) 52)) (some ⟨w.heap.size,1,none⟩) 64 gs:=by have:=stopC_src (blk_new w (.cells (stopC id gs) 52));rwa [hg] at this
 have hbw:Below w.heap.size w (w.alloc (.cells (stopC id gs) 52)):=(Below.refl _ w).alloc (Nat.le_refl _) _
 have hlt:w.heap.size < (w.alloc (.cells (stopC id gs) 52)).heap.size:=by simp
 have HBO:=Lib.hid hbo
 have HC0:=Lib.hid hc0
 have HSR:=Lib.hid hsr
 have HBW:=Lib.hid hbw
 have HLT:=Lib.hid hlt
 have HTL:=Lib.hid hst
 clear hbo hc0 hsr hbw hlt hst hT
 cases hok:okI id with
 | false =>
  rw [hok] at hm
  have HM:=Lib.hid hm
  have c0:=HC0.out
  clear hm
  go_enter Tryd.func35, Tryd.ntmps35
  go_wp2_with ((with_reducible show Calls _ 48 _ _ _);go_at_call 48; refine (HM.out _).mono ?_;rintro e w1 ⟨rfl,rfl⟩)
  all_goals (try simp only [Exit.then])
  go_ret2
  exact ⟨_,rfl,Own8.nil _ _,HBW.out⟩
 | true =>
  rw [hok] at hm
  have HM:=Lib.hid hm
  have c0:=HC0.out
  clear hm
  go_enter Tryd.func35, Tryd.ntmps35
  go_upto_region 3 with ((with_reducible show Calls _ 48 _ _ _);go_at_call 48; refine (HM.out _).mono ?_;rintro e w1 ⟨rfl,rfl⟩)
  clear c0
  generalize w.alloc (.cells (stopC id gs) 52)=wb at HC0 HSR HBW HLT ⊢
  refine wp_region_held_drew (S:=fun u=>Below wb.heap.size wb u) (by kernel_rfl) ((Below.refl _ wb).drew) (fun hHeld=>?_)
  refine wpAnyH_take (i:=0) (oi:=(⟨some 8,_,_,_,_,none⟩:Oper)) (v := .pointer (some ⟨w.heap.size,0,none⟩)) rfl (by kernel_rfl) (by kernel_rfl) (by kernel_rfl) (fun _ _ _ h=>h) (Or.inl ⟨by rfl,?hy107⟩) (by assumption) ?rest107
  case hy107=>(intro u hSu;(try dsimp only at hSu);go_simp;try (with_reducible rfl))
  (try simp only [Act.put,sA,sZ,sS])
  refine wpAnyH_take (i:=1) (oi:=(⟨some 9,_,_,_,_,none⟩:Oper)) (v := .int .i64 id) rfl (by kernel_rfl) (by kernel_rfl) (by kernel_rfl) (fun _ _ _ h=>h) (Or.inl ⟨by rfl,?hy108⟩) (by assumption) ?rest108
  case hy108=>(intro u hSu;(try dsimp only at hSu);have k0:=below_cell hSu HC0.out;go_simp;try (with_reducible rfl))
  (try simp only [Act.put,sA,sZ,sS])
  refine wpAnyH_take (i:=3) (oi:=(⟨some 11,_,_,_,_,none⟩:Oper)) (v := .pointer (some ⟨w.heap.size,1,none⟩)) rfl (by kernel_rfl) (by kernel_rfl) (by kernel_rfl) (fun _ _ _ h=>h) (Or.inl ⟨by rfl,?hy109⟩) (by assumption) ?rest109
  case hy109=>(intro u hSu;(try dsimp only at hSu);go_simp;try (with_reducible rfl))
  (try simp only [Act.put,sA,sZ,sS])
  refine wpAnyH_take (i:=4) (oi:=(⟨some 12,_,_,_,_,none⟩:Oper)) (v := .slice (some ⟨w.heap.size,1,none⟩) 64 64) rfl (by kernel_rfl) (by kernel_rfl) (by kernel_rfl) (fun _ _ _ h=>h) (Or.inl ⟨by rfl,?hy110⟩) (by assumption) ?rest110
  case hy110=>(intro u hSu;(try dsimp only at hSu);go_simp;try (with_reducible rfl))
  (try simp only [Act.put,sA,sZ,sS])
  refine wpAnyH_ready (rs:=[2]) (by kernel_rfl) (by simp) ?_
  refine AllReadyH.cons (o:=(⟨some 10,_,_,_,_,none⟩:Oper)) rfl (fun K hK=>?_) AllReadyH.nil
  go_simp
  go_at_call 65
  refine (HBO.out _).mono ?_
  rintro e w1 ⟨v1,rfl,ho1,hb1⟩
  have HO1:=Lib.hid (ho1.mono (B':=wb.heap.size) (by simp))
  have HB1:=Lib.hid ((Below.refl _ wb).drew.trans hb1)
  clear ho1 hb1
  refine hK.out _ _ (HB1.out) (fun hHeld=>?_)
  clear hK K
  (try simp only [Act.put,sA,sZ,sS])
  refine wpAnyH_ready (rs:=[5]) (by kernel_rfl) (by simp) ?_
  refine AllReadyH.cons (o:=(⟨some 13,_,_,_,_,none⟩:Oper)) rfl (fun K hK=>?_) AllReadyH.nil
  refine step_app8 rfl (.tmp 10) (.tmp 12) rfl wb.heap.size v1 T rfl HO1.out (some ⟨w.heap.size,1,none⟩) 64 64 gs rfl (HSR.out.below HB1.out) (by rw [HTL.out];decide) HB1.out.size ?_
  intro v2 w2 ho2 hg2 hn2 hq2
  have HO2:=Lib.hid ho2
  have HB2:=Lib.hid (app8_below HO1.out hg2 HB1.out HB1.out.size)
  clear ho2 hg2 hn2 hq2
  refine hK.out _ _ (HB2.out) (fun hHeld=>?_)
  clear hK K
  (try simp only [Act.put,sA,sZ,sS])
  refine wpAnyH_take (i:=6) (oi:=(⟨some 2,_,_,_,_,none⟩:Oper)) (v:=v2) rfl (by kernel_rfl) (by kernel_rfl) (by kernel_rfl) (fun _ _ _ h=>h) (Or.inl ⟨by rfl,?hy111⟩) (by assumption) ?rest111
  case hy111=>(intro u hSu;(try dsimp only at hSu);go_simp;try (with_reducible rfl))
  (try simp only [Act.put,sA,sZ,sS])
  refine wpAnyH_take (i:=7) (oi:=(⟨some 3,_,_,_,_,none⟩:Oper)) (v := .int .i64 0) rfl (by kernel_rfl) (by kernel_rfl) (by kernel_rfl) (fun _ _ _ h=>h) (Or.inl ⟨by rfl,?hy112⟩) (by assumption) ?rest112
  case hy112=>(intro u hSu;(try dsimp only at hSu);go_simp;try (with_reducible rfl))
  (try simp only [Act.put,sA,sZ,sS])
  refine wpAnyH_done (by kernel_rfl) ?_ _
  (try simp only [Exit.then])
  go_wp2_with fail
  go_ret2
  exact ⟨_,rfl,HO2.out.mono (Nat.le_of_lt HLT.out),HBW.out.trans (HB2.out.mono (Nat.le_of_lt HLT.out))⟩
theorem certText_any {ks:List Int} (id:Int) (key:Nat) (w:World) (hk:K32 ks key) (hi : -9223372036854775808≤id∧id≤9223372036854775807):Calls Tryd.prog 58 #[.int .i64 id, .agg (arr .u8 ks)] w fun e w'=>∃ v,e = .returned v∧Own8 w' w.heap.size v (certT id key)∧Below w.heap.size w w':=by
 have hn:n32 key=ks:=hk.1.symm
 have hpl:(packL [80,67,67,84] [id]).length=12:=by rw [packL_len];rfl
 rw [certT,hn]
 obtain ⟨T,hT⟩:∃ T,T=packL [80,67,67,84] [id]:=⟨_,rfl⟩
 have hint:∀ (u:World) (g h:Nat),Src u (some ⟨g,0,none⟩) 4 [80,67,67,84]→SrcI u (some ⟨h,0,none⟩) 1 [id]→Calls Tryd.prog 49 #[.slice (some ⟨g,0,none⟩) 4 4, .slice (some ⟨h,0,none⟩) 1 1] u fun e w'=>∃ v,e = .returned v∧Own8 w' u.heap.size v T∧Below u.heap.size u w':=by
  intro u g h h1 h2
  rw [hT]
  exact rint_any (some ⟨g,0,none⟩) (some ⟨h,0,none⟩) 4 4 1 1 _ _ u h1 h2 (by decide) (by decide) (by intro y hy;simp at hy;subst hy;exact hi)
 rw [← hT] at hpl ⊢
 have HINT:=Lib.hid hint
 have HPL:=Lib.hid hpl
 have HKL:=Lib.hid hk.len
 have HSR:Hid (Src (w.alloc (.cells (arr .u8 ks) 23)) (some ⟨w.heap.size,0,none⟩) 32 ks):=Lib.hid (src_all (blk_new w _) 32 hk.len)
 have HBW:Hid (Below w.heap.size w (w.alloc (.cells (arr .u8 ks) 23))):=Lib.hid ((Below.refl _ w).alloc (Nat.le_refl _) _)
 have HLT:Hid (w.heap.size < (w.alloc (.cells (arr .u8 ks) 23)).heap.size):=Lib.hid (by simp)
 clear hint hpl hk hn hT hi
 go_enter Tryd.func58, Tryd.ntmps58
 go_upto_region 1 with fail
 generalize w.alloc (.cells (arr .u8 ks) 23)=wb at HSR HBW HLT ⊢
 refine wp_region_ling (fun f u=>Below wb.heap.size wb u
  ∧ (∀ v,f 0=some v→∃ g,v = .slice (some ⟨g,0,none⟩) 4 4∧(f 4=none→wb.heap.size≤g∧u.heap[g]? = some (.cells (lit4 80 67 67 84) 5 (if (f 1).isSome then (4,5) else (0,0))))∧∀ x,f 1=some x→x=v)
  ∧ (∀ v,f 2=some v→v = .int .i64 id)
  ∧ (∀ v,f 3=some v→∃ g,v = .slice (some ⟨g,0,none⟩) 1 1∧(f 4=none→wb.heap.size≤g∧u.heap[g]? = some (.cells #[.int .i64 id] 3 (0,0))))
  ∧ (∀ v,f 4=some v→f 6=none→Own8 u wb.heap.size v T)
  ∧ (∀ v,f 5=some v→v = .slice (some ⟨w.heap.size,0,none⟩) 32 32)
  ∧ (∀ v,f 6=some v→Own8 u wb.heap.size v (T ++ ks))
  ∧ (∀ v,f 7=some v→f 6=some v)) (by kernel_rfl) (by kernel_rfl) ?z1 ?s1 ?e1
 case z1=>exact ⟨(Below.refl _ wb).drew,fun _ h=>(by cases h),fun _ h=>(by cases h),fun _ h=>(by cases h),fun _ h=>(by cases h),fun _ h=>(by cases h),fun _ h=>(by cases h),fun _ h=>(by cases h)⟩
 case s1 =>
  refine LinAllG.cons (fun f b u K hJ hf hc hu hs hK=>?_) ?_
  ·obtain ⟨hb,j0,j2,j3,j4,j5,j6,j7⟩:=hJ
   have f1:f 1=none:=hc.down 1 0 (by kernel_rfl) hf
   have f4:f 4=none:=hc.down 4 1 (by kernel_rfl) f1
   have hb9:Below u.heap.size u (u.alloc (.cells (lit4 80 67 67 84) 5)):=(Below.refl _ u).alloc (Nat.le_refl _) _
   refine lin_wld rfl (.slice (some ⟨u.heap.size,0,none⟩) 4 4) (u':=u.alloc (.cells (lit4 80 67 67 84) 5)) (by first|rfl|kernel_rfl) (hK _ _ ⟨hb.trans (hb9.mono hb.size),?_,?_,?_,?_,?_,?_,?_⟩)
   ·intro v h
    simp only [Fill.upd,if_pos,Option.some.injEq] at h
    subst h
    refine ⟨_,rfl,fun _=>⟨hb.size,?_⟩,fun x hx=>?_⟩
    ·rw [show (f.upd 0 (.slice (some ⟨u.heap.size,0,none⟩) 4 4)) 1=none from f1]
     exact blk_new u _
    ·rw [show (f.upd 0 (.slice (some ⟨u.heap.size,0,none⟩) 4 4)) 1=none from f1] at hx
     cases hx
   ·exact fun v h=>j2 v h
   ·intro v h
    obtain ⟨g,rfl,h2⟩:=j3 v h
    exact ⟨g,rfl,fun k=>⟨(h2 k).1,Below.blk hb9 (h2 k).2 (blk_lt (h2 k).2)⟩⟩
   ·exact fun v h k=>(j4 v h k).below hb9
   ·exact fun v h=>j5 v h
   ·exact fun v h=>(j6 v h).below hb9
   ·exact fun v h=>j7 v h
  refine LinAllG.cons (fun f b u K hJ hf hc hu hs hK=>?_) ?_
  ·obtain ⟨hb,j0,j2,j3,j4,j5,j6,j7⟩:=hJ
   have f4:f 4=none:=hc.down 4 1 (by kernel_rfl) hf
   have f6:f 6=none:=hc.down 6 4 (by kernel_rfl) f4
   obtain ⟨v0,h0⟩:=sE (hu 0 (by kernel_rfl))
   obtain ⟨g,rfl,hg, -⟩:=j0 v0 h0
   obtain ⟨hg0,hg1⟩:=hg f4
   rw [hf] at hg1
   have e0:b.eval (.tmp 5) = .slice (some ⟨g,0,none⟩) 4 4:=hs.val 0 5 rfl h0
   obtain ⟨u9,hr9,hg9,hk9⟩:=conv_mark u g 4 4 (lit4 80 67 67 84) hg1
   have hb9:Below wb.heap.size u u9:=⟨hk9.os,hk9.tape,hk9.output,hk9.size,fun k hk=>hk9.block k (Nat.lt_of_lt_of_le hk hb.size) (by omega)⟩
   refine lin_wld rfl (.slice (some ⟨g,0,none⟩) 4 4) (u':=u9) (by simp only [execOp,e0];exact conv_nx hr9) (hK _ _ ⟨hb.trans hb9,?_,?_,?_,?_,?_,?_,?_⟩)
   ·intro v h
    have h:f 0=some v:=h
    rw [h0] at h
    cases h
    refine ⟨g,rfl,fun _=>⟨hg0,hg9⟩,fun x hx=>?_⟩
    simp only [Fill.upd,if_pos,Option.some.injEq] at hx
    exact hx.symm
   ·exact fun v h=>j2 v h
   ·intro v h
    obtain ⟨g3,rfl,h2⟩:=j3 v h
    refine ⟨g3,rfl,fun k=>⟨(h2 f4).1,hk9.blk (h2 f4).2 (fun e=>?_)⟩⟩
    have e:g3=g:=e
    subst e
    have:=(h2 f4).2
    rw [hg1] at this
    simp [lit4] at this
   ·intro v h k
    rw [show (f.upd 1 (.slice (some ⟨g,0,none⟩) 4 4)) 4=none from f4] at h
    cases h
   ·exact fun v h=>j5 v h
   ·intro v h
    rw [show (f.upd 1 (.slice (some ⟨g,0,none⟩) 4 4)) 6=none from f6] at h
    cases h
   ·exact fun v h=>j7 v h
  refine LinAllG.cons (fun f b u K hJ hf hc hu hs hK=>?_) ?_
  ·obtain ⟨hb,j0,j2,j3,j4,j5,j6,j7⟩:=hJ
   have e0:b.eval (.tmp 0) = .int .i64 id:=hs.old' 0 (by kernel_rfl) rfl
   refine lin_pure rfl (.int .i64 id) (by simp only [execOp,e0] <;> first|rfl|kernel_rfl) (hK _ _ ⟨hb,fun v h=>j0 v h,?_,fun v h=>j3 v h,fun v h=>j4 v h,fun v h=>j5 v h,fun v h=>j6 v h,fun v h=>j7 v h⟩)
   exact fun v h=>(by simp only [Fill.upd,if_pos,Option.some.injEq] at h;exact h.symm)
  refine LinAllG.cons (fun f b u K hJ hf hc hu hs hK=>?_) ?_
  ·obtain ⟨hb,j0,j2,j3,j4,j5,j6,j7⟩:=hJ
   have f4:f 4=none:=hc.down 4 3 (by kernel_rfl) hf
   obtain ⟨v2,h2⟩:=sE (hu 2 (by kernel_rfl))
   obtain rfl:=j2 v2 h2
   have e2:b.eval (.tmp 7) = .int .i64 id:=hs.val 2 7 rfl h2
   have hb9:Below u.heap.size u (u.alloc (.cells #[.int .i64 id] 3)):=(Below.refl _ u).alloc (Nat.le_refl _) _
   refine lin_wld rfl (.slice (some ⟨u.heap.size,0,none⟩) 1 1) (u':=u.alloc (.cells #[.int .i64 id] 3)) (by simp only [execOp,List.map_toArray,List.map_cons,List.map_nil,e2] <;> first|rfl|kernel_rfl) (hK _ _ ⟨hb.trans (hb9.mono hb.size),?_,?_,?_,?_,?_,?_,?_⟩)
   ·intro v h
    obtain ⟨g,rfl,h3,h4⟩:=j0 v h
    exact ⟨g,rfl,fun k=>⟨(h3 k).1,Below.blk hb9 (h3 k).2 (blk_lt (h3 k).2)⟩,h4⟩
   ·exact fun v h=>j2 v h
   ·intro v h
    simp only [Fill.upd,if_pos,Option.some.injEq] at h
    subst h
    exact ⟨_,rfl,fun _=>⟨hb.size,blk_new u _⟩⟩
   ·exact fun v h k=>(j4 v h k).below hb9
   ·exact fun v h=>j5 v h
   ·exact fun v h=>(j6 v h).below hb9
   ·exact fun v h=>j7 v h
  refine LinAllG.cons (fun f b u K hJ hf hc hu hs hK=>?_) ?_
  ·obtain ⟨hb,j0,j2,j3,j4,j5,j6,j7⟩:=hJ
   have f6:f 6=none:=hc.down 6 4 (by kernel_rfl) hf
   obtain ⟨v1,h1⟩:=sE (hu 1 (by kernel_rfl))
   obtain ⟨v0,h0⟩:=sE (hc.up 1 0 (by kernel_rfl) (by rw [h1];rfl))
   obtain ⟨g,rfl,hg,hx⟩:=j0 v0 h0
   obtain rfl:=hx v1 h1
   obtain ⟨v3,h3⟩:=sE (hu 3 (by kernel_rfl))
   obtain ⟨g3,rfl,hg3⟩:=j3 v3 h3
   have e1:b.eval (.tmp 6) = .slice (some ⟨g,0,none⟩) 4 4:=hs.val 1 6 rfl h1
   have e3:b.eval (.tmp 8) = .slice (some ⟨g3,0,none⟩) 1 1:=hs.val 3 8 rfl h3
   refine lin_call rfl 49 [.tmp 6, .tmp 8] _ [.slice (some ⟨g,0,none⟩) 4 4, .slice (some ⟨g3,0,none⟩) 1 1] rfl (by simp only [List.map_cons,List.map_nil,e1,e3] <;> rfl) (fun _ _=>by kernel_rfl) ?_
   refine Calls.mono (HINT.out u g g3 (src4 (hg hf).2) (srcI_blk (hg3 hf).2)) ?_
   rintro e w1 ⟨v,rfl,ho,hb9⟩
   refine ⟨v,rfl,hK _ _ ⟨hb.trans (hb9.mono hb.size),?_,fun v h=>j2 v h,?_,?_,fun v h=>j5 v h,?_,fun v h=>j7 v h⟩⟩
   ·intro v' h
    obtain ⟨g',e', -, h4⟩:=j0 v' h
    exact ⟨g',e',fun k=>(by simp [Fill.upd] at k),h4⟩
   ·intro v' h
    obtain ⟨g',e', -⟩:=j3 v' h
    exact ⟨g',e',fun k=>(by simp [Fill.upd] at k)⟩
   ·intro v' h _
    simp only [Fill.upd,if_pos,Option.some.injEq] at h
    subst h
    exact ho.mono hb.size
   ·intro v' h
    rw [show (f.upd 4 v) 6=none from f6] at h
    cases h
  refine LinAllG.cons (fun f b u K hJ hf hc hu hs hK=>?_) ?_
  ·obtain ⟨hb,j0,j2,j3,j4,j5,j6,j7⟩:=hJ
   have e0:b.eval (.tmp 3) = .pointer (some ⟨w.heap.size,0,none⟩):=hs.old' 3 (by kernel_rfl) rfl
   refine lin_pure rfl (.slice (some ⟨w.heap.size,0,none⟩) 32 32) (by simp only [execOp,e0,Option.map_none] <;> first|rfl|kernel_rfl|(go_simp;done)) (hK _ _ ⟨hb,fun v h=>j0 v h,fun v h=>j2 v h,fun v h=>j3 v h,fun v h=>j4 v h,?_,fun v h=>j6 v h,fun v h=>j7 v h⟩)
   exact fun v h=>(by simp only [Fill.upd,if_pos,Option.some.injEq] at h;exact h.symm)
  refine LinAllG.cons (fun f b u K hJ hf hc hu hs hK=>?_) ?_
  ·obtain ⟨hb,j0,j2,j3,j4,j5,j6,j7⟩:=hJ
   have f7:f 7=none:=hc.down 7 6 (by kernel_rfl) hf
   obtain ⟨v4,h4⟩:=sE (hu 4 (by kernel_rfl))
   have ho:=j4 v4 h4 hf
   obtain ⟨v5,h5⟩:=sE (hu 5 (by kernel_rfl))
   obtain rfl:=j5 v5 h5
   have e4:b.eval (.tmp 9)=v4:=hs.val 4 9 rfl h4
   have e5:b.eval (.tmp 10) = .slice (some ⟨w.heap.size,0,none⟩) 32 32:=hs.val 5 10 rfl h5
   refine step_app8 rfl (.tmp 9) (.tmp 10) rfl wb.heap.size v4 T e4 ho (some ⟨w.heap.size,0,none⟩) 32 32 ks e5 (HSR.out.below hb) (by rw [HPL.out];decide) hb.size ?_
   intro v2 w2 ho2 hg2 hn2 hq2
   have hb9:Below wb.heap.size wb w2:=app8_below ho hg2 hb hb.size
   refine hK _ _ ⟨hb9,?_,fun v h=>j2 v h,?_,?_,fun v h=>j5 v h,?_,?_⟩
   ·intro v' h
    obtain ⟨g',e', -, h4'⟩:=j0 v' h
    exact ⟨g',e',fun k=>(by have k:f 4=none:=k;rw [h4] at k;cases k),h4'⟩
   ·intro v' h
    obtain ⟨g',e', -⟩:=j3 v' h
    exact ⟨g',e',fun k=>(by have k:f 4=none:=k;rw [h4] at k;cases k)⟩
   ·exact fun v' h k=>(by simp [Fill.upd] at k)
   ·intro v' h
    simp only [Fill.upd,if_pos,Option.some.injEq] at h
    subst h
    exact ho2
   ·intro v' h
    rw [show (f.upd 6 v2) 7=none from f7] at h
    cases h
  refine LinAllG.cons (fun f b u K hJ hf hc hu hs hK=>?_) ?_
  ·obtain ⟨hb,j0,j2,j3,j4,j5,j6,j7⟩:=hJ
   obtain ⟨v6,h6⟩:=sE (hu 6 (by kernel_rfl))
   have e6:b.eval (.tmp 11)=v6:=hs.val 6 11 rfl h6
   refine lin_pure rfl v6 (by simp only [execOp,e6] <;> first|rfl|kernel_rfl) (hK _ _ ⟨hb,fun v h=>j0 v h,fun v h=>j2 v h,fun v h=>j3 v h,fun v h k=>j4 v h k,fun v h=>j5 v h,fun v h=>j6 v h,?_⟩)
   intro v' h
   simp only [Fill.upd,if_pos,Option.some.injEq] at h
   subst h
   exact h6
  exact LinAllG.nil
 case e1 =>
  intro f u hall hJ
  obtain ⟨hb,j0,j2,j3,j4,j5,j6,j7⟩:=hJ
  obtain ⟨v0,h0⟩:=sE (hall 0 (by decide))
  obtain ⟨v1,h1⟩:=sE (hall 1 (by decide))
  obtain ⟨v2,h2⟩:=sE (hall 2 (by decide))
  obtain ⟨v3,h3⟩:=sE (hall 3 (by decide))
  obtain ⟨v4,h4⟩:=sE (hall 4 (by decide))
  obtain ⟨v5,h5⟩:=sE (hall 5 (by decide))
  obtain ⟨v6,h6⟩:=sE (hall 6 (by decide))
  obtain ⟨v7,h7⟩:=sE (hall 7 (by decide))
  have e7:=j7 v7 h7
  rw [h6] at e7
  cases e7
  have HO:=Lib.hid (j6 v6 h6)
  have HB:=Lib.hid hb
  simp only [laid,h0,h1,h2,h3,h4,h5,h6,h7,Nat.reduceAdd,Act.put,sA,sZ,sS]
  clear j0 j2 j3 j4 j5 j6 j7 hb h0 h1 h2 h3 h4 h5 h6 h7 hall
  (try simp only [Exit.then])
  go_wp2_with fail
  go_ret
  exact ⟨_,rfl,HO.out.mono (Nat.le_of_lt HLT.out),HBW.out.trans (HB.out.mono (Nat.le_of_lt HLT.out))⟩
end Go.Proofs.YtodnkallpfkdiaaDoor.Ce
