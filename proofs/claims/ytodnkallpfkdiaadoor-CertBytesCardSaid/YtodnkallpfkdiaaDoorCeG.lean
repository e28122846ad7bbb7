/- cert.PackStop: what it answers. Condition: a signature's 64 bytes. -/
import Derived.Test.YtodnkallpfkdiaaDoorCe
set_option maxRecDepth 100000
set_option maxHeartbeats 16000000
set_option linter.unusedSimpArgs false
set_option linter.unusedVariables false
namespace Go.Proofs.YtodnkallpfkdiaaDoor.Ce
open Go.RowKit Lm Fp Cu Sl Sc
theorem stopC_gs {id:Int} {gs:List Int} {i:Nat} (h:i < gs.length):(stopC id gs)[1+i]? = some (.int .u8 (gs.getD i 0)):=by
 rw [stopC,Array.getElem?_append_right (by simp)]
 simp [arr,List.getD,h]
theorem stopC_src {u:World} {g:Nat} {id:Int} {gs:List Int} {t:TypeId} {fr:Nat×Nat} (h:u.heap[g]? = some (.cells (stopC id gs) t fr)):Src u (some ⟨g,1,none⟩) gs.length gs :=
 ⟨rfl,fun i hi=>⟨_,rfl,by rw [Addr.add_lit,cell_blk h,stopC_gs hi]⟩⟩
theorem packStop_any {gs:List Int} (id:Int) (w:World) (hg:gs.length=64) :
  Calls Tryd.prog 34 #[.agg (stopC id gs)] w fun e w'=>∃ v,e = .returned (.tuple #[v, .int .i64 (if okI id then 0 else 1)])∧Own8 w' w.heap.size v (if okI id then stopT id ++ gs else [])∧Below w.heap.size w w':=by
 have hst:=stopT_len id
 obtain ⟨T,hT⟩:∃ T,T=stopT id:=⟨_,rfl⟩
 have hbo:∀ u:World,Calls Tryd.prog 56 #[.string PCST, .int .i64 id] u fun e w'=>∃ v,e = .returned v∧Own8 w' u.heap.size v T∧Below u.heap.size u w':=by
  intro u
  rw [hT]
  exact by have h:=body_any PCST id u (by decide);rw [sbytes_cst] at h;exact h
 rw [← hT] at hst ⊢
 have hm:=fun w=>may_any id w
 have hc0:(w.alloc (.cells (stopC id gs) 52)).cell? ⟨w.heap.size,0,none⟩=some (.int .i64 id):=by rw [cell_blk (blk_new w _)];exact stopC_id id gs
 have hsr:Src (w.alloc (.cells (stopC id gs) 52)) (some ⟨w.heap.size,1,none⟩) 64 gs:=by have:=stopC_src (blk_new w (.cells (stopC id gs) 52));rwa [hg] at this
 have hbw:Below w.heap.size w (w.alloc (.cells (stopC id gs) 52)):=(Below.refl _ w).alloc (Nat.le_refl _) _
 have hlt:w.heap.size < (w.alloc (.cells (stopC id gs) 52)).heap.size:=by simp
 have HBO:=Lib.hid hbo
 have HC0:=Lib.hid hc0
 have HSR:=Lib.hid hsr
 have HBW:=Lib.hid hbw
 have HLT:=Lib.hid hlt
 have HTL:=Lib.hid hst
 clear hbo hc0 hsr hbw hlt hst hT
 cases hok:okI id with
 | false =>
  rw [hok] at hm
  have HM:=Lib.hid hm
  have c0:=HC0.out
  clear hm
  go_enter Tryd.func34, Tryd.ntmps34
  go_wp2_with ((with_reducible show Calls _ 53 _ _ _);go_at_call 53; refine (HM.out _).mono ?_;rintro e w1 ⟨rfl,rfl⟩)
  all_goals (try simp only [Exit.then])
  go_ret2
  exact ⟨_,rfl,Own8.nil _ _,HBW.out⟩
 | true =>
  rw [hok] at hm
  have HM:=Lib.hid hm
  have c0:=HC0.out
  clear hm
  go_enter Tryd.func34, Tryd.ntmps34
  go_upto_region 3 with ((with_reducible show Calls _ 53 _ _ _);go_at_call 53; refine (HM.out _).mono ?_;rintro e w1 ⟨rfl,rfl⟩)
  clear c0
  generalize w.alloc (.cells (stopC id gs) 52)=wb at HC0 HSR HBW HLT ⊢
  refine wp_region_held_drew (S:=fun u=>Below wb.heap.size wb u) (by kernel_rfl) ((Below.refl _ wb).drew) (fun hHeld=>?_)
  refine wpAnyH_take (i:=0) (oi:=(⟨some 8,_,_,_,_,none⟩:Oper)) (v := .pointer (some ⟨w.heap.size,0,none⟩)) rfl (by kernel_rfl) (by kernel_rfl) (by kernel_rfl) (fun _ _ _ h=>h) (Or.inl ⟨by rfl,?hy101⟩) (by assumption) ?rest101
  case hy101=>(intro u hSu;(try dsimp only at hSu);go_simp;try (with_reducible rfl))
  (try simp only [Act.put,sA,sZ,sS])
  refine wpAnyH_take (i:=1) (oi:=(⟨some 9,_,_,_,_,none⟩:Oper)) (v := .int .i64 id) rfl (by kernel_rfl) (by kernel_rfl) (by kernel_rfl) (fun _ _ _ h=>h) (Or.inl ⟨by rfl,?hy102⟩) (by assumption) ?rest102
  case hy102=>(intro u hSu;(try dsimp only at hSu);have k0:=below_cell hSu HC0.out;go_simp;try (with_reducible rfl))
  (try simp only [Act.put,sA,sZ,sS])
  refine wpAnyH_take (i:=3) (oi:=(⟨some 11,_,_,_,_,none⟩:Oper)) (v := .pointer (some ⟨w.heap.size,1,none⟩)) rfl (by kernel_rfl) (by kernel_rfl) (by kernel_rfl) (fun _ _ _ h=>h) (Or.inl ⟨by rfl,?hy103⟩) (by assumption) ?rest103
  case hy103=>(intro u hSu;(try dsimp only at hSu);go_simp;try (with_reducible rfl))
  (try simp only [Act.put,sA,sZ,sS])
  refine wpAnyH_take (i:=4) (oi:=(⟨some 12,_,_,_,_,none⟩:Oper)) (v := .slice (some ⟨w.heap.size,1,none⟩) 64 64) rfl (by kernel_rfl) (by kernel_rfl) (by kernel_rfl) (fun _ _ _ h=>h) (Or.inl ⟨by rfl,?hy104⟩) (by assumption) ?rest104
  case hy104=>(intro u hSu;(try dsimp only at hSu);go_simp;try (with_reducible rfl))
  (try simp only [Act.put,sA,sZ,sS])
  refine wpAnyH_ready (rs:=[2]) (by kernel_rfl) (by simp) ?_
  refine AllReadyH.cons (o:=(⟨some 10,_,_,_,_,none⟩:Oper)) rfl (fun K hK=>?_) AllReadyH.nil
  go_simp
  go_at_call 56
  refine (HBO.out _).mono ?_
  rintro e w1 ⟨v1,rfl,ho1,hb1⟩
  have HO1:=Lib.hid (ho1.mono (B':=wb.heap.size) (by simp))
  have HB1:=Lib.hid ((Below.refl _ wb).drew.trans hb1)
  clear ho1 hb1
  refine hK.out _ _ (HB1.out) (fun hHeld=>?_)
  clear hK K
  (try simp only [Act.put,sA,sZ,sS])
  refine wpAnyH_ready (rs:=[5]) (by kernel_rfl) (by simp) ?_
  refine AllReadyH.cons (o:=(⟨some 13,_,_,_,_,none⟩:Oper)) rfl (fun K hK=>?_) AllReadyH.nil
  refine step_app8 rfl (.tmp 10) (.tmp 12) rfl wb.heap.size v1 T rfl HO1.out (some ⟨w.heap.size,1,none⟩) 64 64 gs rfl (HSR.out.below HB1.out) (by rw [HTL.out];decide) HB1.out.size ?_
  intro v2 w2 ho2 hg2 hn2 hq2
  have HO2:=Lib.hid ho2
  have HB2:=Lib.hid (app8_below HO1.out hg2 HB1.out HB1.out.size)
  clear ho2 hg2 hn2 hq2
  refine hK.out _ _ (HB2.out) (fun hHeld=>?_)
  clear hK K
  (try simp only [Act.put,sA,sZ,sS])
  refine wpAnyH_take (i:=6) (oi:=(⟨some 2,_,_,_,_,none⟩:Oper)) (v:=v2) rfl (by kernel_rfl) (by kernel_rfl) (by kernel_rfl) (fun _ _ _ h=>h) (Or.inl ⟨by rfl,?hy105⟩) (by assumption) ?rest105
  case hy105=>(intro u hSu;(try dsimp only at hSu);go_simp;try (with_reducible rfl))
  (try simp only [Act.put,sA,sZ,sS])
  refine wpAnyH_take (i:=7) (oi:=(⟨some 3,_,_,_,_,none⟩:Oper)) (v := .int .i64 0) rfl (by kernel_rfl) (by kernel_rfl) (by kernel_rfl) (fun _ _ _ h=>h) (Or.inl ⟨by rfl,?hy106⟩) (by assumption) ?rest106
  case hy106=>(intro u hSu;(try dsimp only at hSu);go_simp;try (with_reducible rfl))
  (try simp only [Act.put,sA,sZ,sS])
  refine wpAnyH_done (by kernel_rfl) ?_ _
  (try simp only [Exit.then])
  go_wp2_with fail
  go_ret2
  exact ⟨_,rfl,HO2.out.mono (Nat.le_of_lt HLT.out),HBW.out.trans (HB2.out.mono (Nat.le_of_lt HLT.out))⟩
end Go.Proofs.YtodnkallpfkdiaaDoor.Ce
