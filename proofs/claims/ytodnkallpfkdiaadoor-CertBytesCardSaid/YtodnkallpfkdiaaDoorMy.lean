/- portcullisref1.Int, One: numbers behind bytes. Condition: the bytes and the numbers lie there. A slice literal's conversion marks its block: the laws of it, in whatever order. No condition. Arguments of a law that hold structs, opened field by field. No program here; no condition. -/
import Derived.Test.YtodnkallpfkdiaaDoorMx
import Derived.Test.YtodnkallpfkdiaaDoorMa
import Derived.Lib.SlBytesConst
import Derived.Deep.Slices
set_option maxRecDepth 100000
set_option maxHeartbeats 16000000
set_option linter.unusedSimpArgs false
set_option linter.unusedVariables false
namespace Go.Proofs.YtodnkallpfkdiaaDoor
open Go.RowKit
theorem and255i (y:Int):IntKind.u8.wrap (bits .and .i64 y 255)=y % 256:=by
 have h2:(BitVec.ofInt 64 (255:Int)).toNat=255:=by decide
 have e:∀ x:Nat,x &&& 255=x % 256:=fun x=>Nat.and_two_pow_sub_one_eq_mod x 8
 show IntKind.u8.wrap (IntKind.i64.wrap ((BitVec.ofInt 64 y &&& BitVec.ofInt 64 (255:Int)).toNat:Int))=_
 rw [BitVec.toNat_and,h2,e,BitVec.toNat_ofInt,IntKind.wrap_u8]
 have hb:(((y % ((2 ^ 64:Nat):Int)).toNat % 256:Nat):Int)=y % 256:=by omega
 rw [hb,IntWalk.i64_in _ (by omega)]
 omega
theorem zero8b (w:World):(zeroValue 124).run Tryd.prog w = .ok (.agg (arr .u8 (List.replicate 8 0))) w:=by kernel_rfl
/-- The last j bytes are laid. -/
def lay8 (x:Int) (j:Nat):List Int:=List.replicate (8 - j) 0 ++ (be8 x).drop (8 - j)
theorem lay8_len (x:Int) (j:Nat):(lay8 x j).length=8:=by simp [lay8,be8_len]
theorem lay8_succ (x:Int) (j:Nat) (hj:j < 8):(lay8 x j).set (7 - j) (x / 2 ^ (8 * j) % 256)=lay8 x (j+1):=by
 have:j=0∨j=1∨j=2∨j=3∨j=4∨j=5∨j=6∨j=7:=by omega
 rcases this with rfl|rfl|rfl|rfl|rfl|rfl|rfl|rfl <;> rfl
theorem lay8_all (x:Int):lay8 x 8=be8 x:=by simp [lay8]
theorem down8 (x:Int) (j:Nat) (hj:j < 8):x / 2 ^ (8 * j) / 256=x / 2 ^ (8 * (j+1)):=by
 have:j=0∨j=1∨j=2∨j=3∨j=4∨j=5∨j=6∨j=7:=by omega
 rcases this with rfl|rfl|rfl|rfl|rfl|rfl|rfl|rfl
 all_goals (simp only [Nat.reduceMul,Nat.reduceAdd,Int.reducePow,Nat.mul_zero,Int.pow_zero];omega)
theorem blk_arr8 {w:World} {g:Nat} {k:IntKind} {xs:List Int} {t:TypeId} (h:w.heap[g]? = some (.cells (arr k xs) t (0,0))) (i:Nat) (hi:i < xs.length):w.cell? ⟨g,i,none⟩=some (.int k (xs.getD i 0)):=(cell_blk h i).trans (arr_get _ _ _ hi)
theorem blk_arr8_set {w:World} {g:Nat} {k:IntKind} {xs:List Int} {t:TypeId} (h:w.heap[g]? = some (.cells (arr k xs) t (0,0))) (i:Nat) (x:Int):(w.setCell ⟨g,i,none⟩ (.int k x)).heap[g]? = some (.cells (arr k (xs.set i x)) t (0,0)):=by
 rw [blk_setCell h]
 congr 2
 simp [arr,List.map_set]
theorem rint_any (sa si:Option Addr) (nb cb n ci:Nat) (bs ns:List Int) (w:World) (hs:Src w sa nb bs) (hi:SrcI w si n ns) (hnb:nb≤1099511627776) (hn:n≤1048576) (hwf:∀ x∈ns, -9223372036854775808≤x∧x≤9223372036854775807) :
  Calls Tryd.prog 49 #[.slice sa nb cb, .slice si n ci] w fun e w'=>∃ v,e = .returned v∧Own8 w' w.heap.size v (packL bs ns)∧Below w.heap.size w w':=by
 have hlb:=hs.len
 have hln:=hi.len
 have HSB:=Lib.hid hs
 have HI:=Lib.hid hi
 have HLB:=Lib.hid hlb
 have HLN:=Lib.hid hln
 have HWF:=Lib.hid hwf
 have HN0:=Lib.hid (Own8.nil w w.heap.size)
 clear hs hi hlb hln hwf
 go_enter Tryd.func49, Tryd.ntmps49
 go_wp2_with ((with_reducible refine aS 11 ?_);refine wpList_app8 rfl (.const (.slice none 0 0)) (.tmp 10) rfl w.heap.size (.slice none 0 0) [] rfl HN0.out sa nb cb bs rfl HSB.out (by simp;omega) (Nat.le_refl _) ?_;intro v1 w1 ho1 hg1 hn1 hb1;have HO1:=Lib.hid ho1;have HB1:=Lib.hid (app8_below HN0.out hg1 (Below.refl _ w) (Nat.le_refl _));clear ho1 hg1 hn1 hb1)
 go_loopw [5,6] (fun v i wr=>∃ j:Nat,j≤n∧i = .int .i64 j∧Own8 wr w.heap.size v (packL bs (ns.take j))∧Below w.heap.size w wr) (fun _ i _=>n - (intOf i).toNat)
 case atStart=>exact ⟨0,Nat.zero_le _,rfl,by simpa [packL] using HO1.out,HB1.out⟩
 case round =>
  obtain ⟨j,hj,rfl,hO,hB⟩:=hrel
  by_cases hlt:j < n
  ·obtain ⟨a,rfl,hc⟩:=HI.out.cell j hlt
   have x0:=below_cell hB hc
   have HPS:=Lib.hid (packL_snoc bs ns j (by rw [HLN.out];exact hlt))
   have hwx:=HWF.out (ns.getD j 0) (by
    have:j < ns.length:=by rw [HLN.out];exact hlt
    simp only [List.getD,List.getElem?_eq_getElem this,Option.getD_some]
    exact List.getElem_mem this)
   have hTl:=packL_len bs (ns.take j)
   rw [HLB.out,List.length_take,HLN.out,Nat.min_eq_left hj] at hTl
   obtain ⟨va,vc,hv, -⟩:=hO.form
   obtain ⟨T,hT⟩:∃ T,T=packL bs (ns.take j):=⟨_,rfl⟩
   rw [← hT] at hO hTl HPS hv
   rw [hTl] at hv
   subst hv
   have HTL:=Lib.hid hTl
   have HO:=Lib.hid hO
   have HB:=Lib.hid hB
   clear hT hTl hO hB hc
   generalize ns.getD j 0=x at x0 HPS hwx
   obtain ⟨wo,rfl⟩:∃ wo:World,wo=wr:=⟨_,rfl⟩
   have hb0:(wo.alloc (.cells (arr .u8 (List.replicate 8 0)) 124)).heap[wo.heap.size]? = some (.cells (arr .u8 (lay8 x 0)) 124 (0,0)):=by
    rw [show lay8 x 0=List.replicate 8 0 from rfl]
    exact blk_new _ _
   have HB0:=Lib.hid hb0
   have HBA:=Lib.hid ((Below.refl wo.heap.size wo).alloc (Nat.le_refl _) (.cells (arr .u8 (List.replicate 8 0)) 124))
   have HX0:=Lib.hid (show x=x / 2 ^ (8 * 0) by simp)
   clear hb0
   go_wp2_with ((with_reducible refine aS 8 ?_);refine wpList_alloc_row rfl 124 rfl _ (zero8b _) ?_)
   go_loopw [7,9] (fun u i wr=>∃ j5:Nat,j5≤8∧i = .int .i64 (7 - (j5:Int))∧u = .int .i64 (x / 2 ^ (8 * j5))∧wr.heap[wo.heap.size]? = some (.cells (arr .u8 (lay8 x j5)) 124 (0,0))∧Below wo.heap.size wo wr) (fun _ i _=>(1+intOf i).toNat)
   case atStart=>exact ⟨0,Nat.zero_le _,rfl,by rw [← HX0.out],HB0.out,HBA.out⟩
   case round =>
    obtain ⟨j5,hj5,rfl,rfl,hb,hB5⟩:=hrel
    by_cases hlt5:j5 < 8
    ·have y0:=blk_arr8 hb (7 - j5) (by rw [lay8_len _ _];omega)
     have y1:=free_blk hb (7 - j5)
     have h2:∀ u,u=x / 2 ^ (8 * j5) % 256→(wr.setCell ⟨wo.heap.size,7 - j5,none⟩ (.int .u8 u)).heap[wo.heap.size]? = some (.cells (arr .u8 (lay8 x (j5+1))) 124 (0,0)):=by
      rintro u rfl
      rw [blk_arr8_set hb,lay8_succ x j5 hlt5]
     have H2:=Lib.hid h2
     have HB5:=Lib.hid (fun u=>hB5.setCell (p:=⟨wo.heap.size,7 - j5,none⟩) (Nat.le_refl _) (.int .u8 u))
     have HD:=Lib.hid (down8 x j5 hlt5)
     have e1:(7 - (j5:Int)).toNat=7 - j5:=by omega
     have e2:0≤7 - (j5:Int):=by omega
     have e3:7 - (j5:Int) < 8:=by omega
     clear hb hB5 h2
     generalize hy:x / 2 ^ (8 * j5)=y at H2 HD ⊢
     go_wp2_with fail
     clear e1 e2 e3
     go_roundw
     case rel=>exact ⟨j5+1,by omega,by go_num,by rw [← HD.out],H2.out _ (and255i _),HB5.out _⟩
     case measure=>simp [intOf];omega
    ·obtain rfl:j5=8:=by omega
     rw [lay8_all] at hb
     have hsr:Src wr (some ⟨wo.heap.size,0,none⟩) 8 (be8 x):=src_row hb (by rw [Nat.mul_one,arr_toList,List.take_of_length_le (by simp)]) (be8_len x)
     have HSR:=Lib.hid hsr
     have HO9:=Lib.hid (HO.out.below hB5)
     have HB9:=Lib.hid (HB.out.trans (hB5.mono HB.out.size))
     clear hb hB5 hsr
     go_wp2_with ((with_reducible refine aS 35 ?_);refine wpList_app8 rfl (.tmp 33) (.tmp 34) rfl w.heap.size (.slice va (nb+8 * j) vc) T rfl HO9.out (some ⟨wo.heap.size,0,none⟩) 8 8 (be8 x) rfl HSR.out (by rw [HTL.out];omega) HB9.out.size ?_;intro v6 w6 ho6 hg6 hn6 hb6;have HO6:=Lib.hid ho6;have HG6:=Lib.hid hg6;clear ho6 hg6 hn6 hb6)
     go_roundw
     case rel=>exact ⟨j+1,by omega,by go_num,by rw [HPS.out];exact HO6.out,app8_below HO9.out HG6.out HB9.out HB9.out.size⟩
     case measure=>simp [intOf];omega
  ·have ej:ns.take j=ns:=List.take_of_length_le (by rw [HLN.out];omega)
   rw [ej] at hO
   have HO:=Lib.hid hO
   have HB:=Lib.hid hB
   clear hO hB ej
   go_wp2_with fail
   (try simp only [Exit.inBlock,Exit.then])
   go_ret
   exact ⟨_,rfl,HO.out,HB.out⟩
theorem one_any (x:Int) (w:World) (hx : -9223372036854775808≤x∧x≤9223372036854775807) :
  Calls Tryd.prog 70 #[.int .i64 x] w fun e w'=>∃ v,e = .returned v∧Own8 w' w.heap.size v (be8 x)∧Below w.heap.size w w':=by
 have h:=rint_any none (some ⟨w.heap.size,0,none⟩) 0 0 1 1 [] [x] (w.alloc (.cells #[.int .i64 x] 3)) ⟨rfl,fun i hi=>absurd hi (by omega)⟩ (srcI_one w x) (by omega) (by omega) (by intro y hy;simp at hy;subst hy;exact hx)
 rw [show packL [] [x]=be8 x by simp [packL]] at h
 have H:=Lib.hid h
 have HB:=Lib.hid ((Below.refl _ w).alloc (Nat.le_refl _) (.cells #[.int .i64 x] 3))
 clear h hx
 go_enter Tryd.func70, Tryd.ntmps70
 go_wp2_with (go_at_call 49; refine H.out.mono ?_;rintro e w1 ⟨v1,rfl,ho1,hb1⟩;have HO1:=Lib.hid (ho1.mono (B':=w.heap.size) (by simp));have HB1:=Lib.hid (HB.out.trans (hb1.mono HB.out.size));clear ho1 hb1)
 go_ret
 exact ⟨_,rfl,HO1.out,HB1.out⟩
end Go.Proofs.YtodnkallpfkdiaaDoor
namespace Go.Proofs.YtodnkallpfkdiaaDoor
open Go.RowKit
theorem conv_nx {w w':World} {v v':Value} {t u:TypeId} (h:(convert t u v).run Tryd.prog w = .ok v' w'):(do pure (Next.value (← convert t u v)):Sem Next).run Tryd.prog w = .ok (.value v') w':=by
 simp only [Sem.run_bind,h,Result.andThen_ok]
 rfl
theorem lin_wld {P:Program} {Q:Exit→Act→World→Prop} {ops:Array Oper} {o:Oper} {b:Act} {u u':World} {K:Act→World→Prop} {E:Prop} (hgd:o.guard=none) (v:Value) (hrun:(execOp b.eval o).run P u = .ok (.value v) u') (h:K (b.put o.dst v) u') :
  if Region.wanted o (yielded ops b.tmps)=true then Oper.wp P o b u K Q else E:=by
 rw [if_pos (by simp [Region.wanted,hgd])]
 unfold Oper.wp
 rw [hrun]
 exact h
/-- A literal's row is marked: its cells, and all other blocks, stay. -/
theorem conv_mark (w:World) (g n c:Nat) (C:Array Value) (hg:w.heap[g]? = some (.cells C 5 (0,0))) :
  ∃ w',(convert 24 24 (.slice (some ⟨g,0,none⟩) n c)).run Tryd.prog w = .ok (.slice (some ⟨g,0,none⟩) n c) w'∧w'.heap[g]? = some (.cells C 5 (C.size,C.size+1))∧Kept (fun x=>x=g) w w':=by
 have hsh:w.shape? g=some (5, C.size):=by
  unfold World.shape?
  rw [hg]
 refine ⟨w.freeze ⟨g,C.size,none⟩ 1,?_,?_,?_⟩
 ·simp [convert,run_underlying Tryd.underlying24, run_underlying Tryd.underlying5, markStringish,hsh]
 ·unfold World.freeze
  rw [if_neg (by decide)]
  simp only [Array.getElem?_modify,if_true,hg,Option.map_some]
  rfl
 ·unfold World.freeze
  rw [if_neg (by decide)]
  refine ⟨rfl,rfl,rfl,by simp,fun k hk hne=>?_⟩
  simp only [Array.getElem?_modify]
  rw [if_neg (fun e=>hne e.symm)]
/-- Four bytes as a literal. -/
def lit4 (a b c d:Int):Array Value := #[.int .u8 a, .int .u8 b, .int .u8 c, .int .u8 d]
theorem conv4 (w:World) (a b c d:Int):(convert 24 24 (.slice (some ⟨w.heap.size,0,none⟩) 4 4)).run Tryd.prog (w.alloc (.cells (lit4 a b c d) 5)) = .ok (.slice (some ⟨w.heap.size,0,none⟩) 4 4) (w.alloc (.cells (lit4 a b c d) 5 (4,5))) :=
 Lib.run_convert_bytes_const w 24 5 (lit4 a b c d) 4 4 Tryd.underlying24 Tryd.underlying5
theorem src4 {u:World} {g:Nat} {a b c d:Int} {fr:Nat×Nat} (h:u.heap[g]? = some (.cells (lit4 a b c d) 5 fr)):Src u (some ⟨g,0,none⟩) 4 [a,b,c,d]:=src_row h rfl rfl
theorem srcI_blk {u:World} {g:Nat} {x:Int} {t:TypeId} {fr:Nat×Nat} (h:u.heap[g]? = some (.cells #[.int .i64 x] t fr)):SrcI u (some ⟨g,0,none⟩) 1 [x]:=by
 refine ⟨rfl,fun i hi=>⟨_,rfl,?_⟩⟩
 obtain rfl:i=0:=by omega
 rw [show (⟨g,0,none⟩:Addr).add 0=⟨g,0,none⟩ from rfl,cell_blk h]
 rfl
end Go.Proofs.YtodnkallpfkdiaaDoor
namespace Go.Proofs.YtodnkallpfkdiaaDoor
open Go.RowKit Go.ChangeShapes Go.WideShapes
theorem plain_addr {w:World} {ad:Addr} {v:Value} (h:w.cell? ad=some v):∃ b o,ad=⟨b,o,none⟩:=by
 obtain ⟨b,o,s⟩:=ad
 cases s with
 | none=>exact ⟨b,o,rfl⟩
 | some s =>
  exfalso
  simp only [World.cell?, Option.isSome_some,if_true] at h
  split at h <;> cases h
theorem add_plain (b o i:Nat):(⟨b,o,none⟩:Addr).add i=⟨b,o+i,none⟩:=by unfold Addr.add;split <;> simp_all
theorem RowI.below {k:IntKind} {w w':World} {a:Option Addr} {len cap:Nat} {zs:List Int} (h:RowI k w a len cap zs) (hb:Below w.heap.size w w'):RowI k w' a len cap zs:=by
 rcases h with h0|⟨x,h1,h2,h3,h4,h5,h6⟩
 ·exact .inl h0
 ·exact .inr ⟨x,h1,h2,h3,h4,fun i hi=>below_cell hb (h5 i hi),h6⟩
theorem RowI.lt {k:IntKind} {w:World} {a:Option Addr} {len cap:Nat} {zs:List Int} (h:RowI k w a len cap zs) (x:Addr) (hx:a=some x):len=0∨x.block < w.heap.size:=by
 rcases h with ⟨rfl,_⟩|⟨y,rfl,h2,h3,h4,h5,h6⟩
 ·cases hx
 ·cases hx
  rcases Nat.eq_zero_or_pos len with h0|h0
  ·exact .inl h0
  ·exact .inr (World.block_lt_of_cell? _ _ (h5 0 (by omega)))
section
variable {H:Type} {enc:TypeId×Value→H} {P:Program} {w:World} {base:Nat} {spare:Nat→Bool} {held:Bool} {fuel:Nat} {t e:TypeId} {cs l:List Value} {x y:DataW H×List MemPlace}
theorem flds {fs:Array Field} (ht:P.underlying t=some (.struct fs)) (h:DataW.trod enc P w base spare held fuel t cs=some x) :
  cs.length=P.cellsOf t∧∃ n,∀ (i ft off sz:Nat),(fs[i]?).map (fun f=>(f.type,f.offset))=some (ft,off)→P.cellsOf ft=sz→∃ y,DataW.trod enc P w base spare held n ft ((cs.drop off).take sz)=some y:=by
 obtain ⟨xs,n,_,_,hl,hx,hf⟩:=DataW.trod_struct ht h
 refine ⟨hl,n,fun i ft off sz hi hs=>?_⟩
 cases hfi:fs[i]? with
 | none=>rw [hfi] at hi;cases hi
 | some f =>
  rw [hfi] at hi
  simp only [Option.map_some,Option.some.injEq,Prod.mk.injEq] at hi
  obtain ⟨rfl,rfl⟩:=hi
  subst hs
  have hlt:i < xs.length:=by rw [hx];exact (Array.getElem?_eq_some_iff.1 hfi).1
  exact ⟨_,(hf i f hfi).trans (List.getElem?_eq_getElem hlt)⟩
theorem fld_int {k:IntKind} (hu:P.underlying t=some (.int k)) (h:DataW.trod enc P w base spare held fuel t l=some y):∃ z,l=[.int k z]∧(Lit.int k z).wf=true:=by
 obtain ⟨z,h1,_,h2⟩:=DataW.trod_int hu h
 exact ⟨z,h1,h2⟩
theorem fld_ints {k:IntKind} (hu:P.underlying t=some (.slice e)) (he:P.underlying e=some (.int k)) (hc:P.cellsOf e=1) (h:DataW.trod enc P w base (fun _=>true) held fuel t l=some y) :
  ∃ a len cap zs,l=[.slice a len cap]∧RowI k w a len cap zs:=by
 rcases open_ints hu he hc h with ⟨hcs,_⟩|⟨a,n,c,zs,hcs,_,hl,hm,hz,_,hcell,hwz⟩
 ·exact ⟨none,0,0,[],hcs, .inl ⟨rfl,rfl,rfl,rfl⟩⟩
 ·exact ⟨some a,n,c,zs,hcs, .inr ⟨a,rfl,hl,hm,by simpa using hz,hcell,hwz⟩⟩
theorem fld_arr {k:IntKind} {n:Nat} (hu:P.underlying t=some (.array n e)) (he:P.underlying e=some (.int k)) (hc:P.cellsOf e=1) (hn:P.cellsOf t=n) (h:DataW.trod enc P w base spare held fuel t l=some y) :
  ∃ zs:List Int,l=zs.map (Value.int k)∧zs.length=n∧∀ z∈zs,(Lit.int k z).wf=true:=by
 obtain ⟨xs,m,_,_,hl,hx,hi⟩:=DataW.trod_array hu h
 rw [hc] at hi
 exact cells_ints (k:=k) n l (by rw [← hn];exact hl) (fun i h=>by
  have:=hi i h
  rw [List.getElem?_eq_getElem (show i < xs.length by omega)] at this
  obtain ⟨z,h1,_,h2⟩:=DataW.trod_int he this
  exact ⟨z,by simpa using h1,h2⟩)
/-- The elements of a slice that came in: the cells of each, and its reading. -/
theorem slice_elems {n:Nat} {a:Option Addr} {len cap:Nat} (ht:P.underlying t=some (.slice e)) (hn:P.cellsOf e=n) (h:DataW.trod enc P w base spare held fuel t (Value.slice a len cap).cells.toList=some x) :
  (a=none∧len=0∧cap=0)∨∃ ad,a=some ad∧len≤cap∧cap≤maxLen∧∀ i,i < len→∃ cs f y,cs.length=n∧(∀ j v,cs[j]? = some v→w.cell? ((ad.add (i * n)).add j)=some v)∧DataW.trod enc P w base spare held f e cs=some y:=by
 subst hn
 rcases Go.Deep.open_slice ht h with ⟨h0,_⟩|⟨ad,l,c,m,f,D,Pl,hcs,_,hl,hm,hmm,_,hi⟩
 ·simp [Value.cells] at h0
  exact .inl h0
 ·simp [Value.cells] at hcs
  obtain ⟨rfl,rfl,rfl⟩:=hcs
  refine .inr ⟨ad,rfl,hl,hm,fun i hlt=>?_⟩
  obtain ⟨cs,hc,hr⟩:=hi i (by subst hmm;split <;> omega)
  obtain ⟨_,hlen,hget⟩:=World.cells?_some hc
  refine ⟨cs,f,_,hlen,fun j v hv=>?_,hr⟩
  rw [hget j (by rw [← hlen];exact (List.getElem?_eq_some_iff.1 hv).1),hv]
end
end Go.Proofs.YtodnkallpfkdiaaDoor
