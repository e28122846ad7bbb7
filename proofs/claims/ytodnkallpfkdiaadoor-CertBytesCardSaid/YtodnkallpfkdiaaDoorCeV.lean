/- What reading a stop answers; loads and runs that are wanted. Condition: the arguments' sizes; the tables hold what their text lays. -/
import Derived.Test.YtodnkallpfkdiaaDoorCeJ
import Derived.Test.YtodnkallpfkdiaaDoorCeQ
import Derived.Test.YtodnkallpfkdiaaDoorMy
namespace Go.Proofs.YtodnkallpfkdiaaDoor.Ce
open Go.RowKit Go.ChangeShapes Go.WideShapes Lm Fp Cu Sl Sc
set_option linter.unusedSimpArgs false
set_option linter.unusedVariables false
theorem wpList_load_rowW {P:Program} {ops:Array Oper} {rest:List Oper} {o:Oper} {a:Act} {w:World} {Q:Exit→Act→World→Prop} (hgd:Region.wanted o (yielded ops a.tmps)=true) (ty:TypeId) (x:Operand) (ho:o.op = .load ty x)
  (g:Nat) (hx:a.eval x = .pointer (some ⟨g,0,none⟩)) (t:TypeId) (cs:Array Value) (fr:Nat×Nat) (d:TypeDesc) (hg:w.heap[g]? = some (.cells cs t fr))
  (hu:P.underlying ty=some d) (hd:(match d with | .struct _ | .array _ _=>true|_=>false)=true) (hi:(P.info? ty).map (·.size)=some cs.size)
  (h:wpList P ops Q rest (a.put o.dst (.agg cs)) w):wpList P ops Q (o :: rest) a w:=by
 unfold wpList
 rw [if_pos hgd]
 exact .inl (wp_load_row ty x ho g hx t cs fr d hg hu hd hi h)
theorem wpList_runW {P:Program} {ops:Array Oper} {rest:List Oper} {o:Oper} {a:Act} {w:World} {Q:Exit→Act→World→Prop} (hgd:Region.wanted o (yielded ops a.tmps)=true) (v:Value) (hrun:(execOp a.eval o).run P w = .ok (.value v) w) (h:wpList P ops Q rest (a.put o.dst v) w):wpList P ops Q (o :: rest) a w:=by
 unfold wpList
 rw [if_pos hgd]
 left
 unfold Oper.wp
 rw [hrun]
 exact h
theorem readV_is (xs:List Int):∃ (XC:Array Value) (E:Int),readV xs = .tuple #[.agg XC, .int .i64 E]∧XC.size=65∧XC.all (·.oneCell')=true∧(∀ w,(Op.equalIn 10000 52 (.agg XC) (.agg XC)).run Tryd.prog w = .ok true w)∧E=(if rdOk xs=true then 0 else 4):=by
 have z2:(List.replicate 64 (0:Int)).length=64:=by simp
 unfold readV
 by_cases h:rdOk xs=true
 ·rw [if_pos h,if_pos h]
  have hl:(rdG xs).length=64:=by
   refine rdG_len ?_
   unfold rdOk at h
   simp only [Bool.and_eq_true] at h
   exact h.1.1
  exact ⟨_,0,rfl,stopC_size hl,stopC_one _ _,eq_stop _ _ hl,rfl⟩
 ·rw [if_neg h,if_neg h]
  exact ⟨_,4,rfl,stopC_size z2,stopC_one _ _,eq_stop _ _ z2,rfl⟩
theorem _root_.Go.Proofs.YtodnkallpfkdiaaDoor.Blk.holdsT {w u:World} {L:List (Nat×Array Value×TypeId)} (h:Blk w u L):Holds (fun g=>∃ e∈L,e.1=g) u u fun κ=>(oldOf L)[κ]? := by
 have h0:=h.holds
 refine ⟨fun i g p hi=>⟨(h0.mem i g p hi).1, .inl ?_⟩,h0.inj,Kept.refl _ _⟩
 have hi:(oldOf L)[i]? = some (g,p):=hi
 simp only [oldOf,List.getElem?_map,Option.map_eq_some_iff,Prod.mk.injEq] at hi
 obtain ⟨x,h1,h2, -⟩:=hi
 exact ⟨x,List.mem_of_getElem? h1,h2⟩
theorem _root_.Go.Proofs.YtodnkallpfkdiaaDoor.Blk.belowT {w u u':World} {L:List (Nat×Array Value×TypeId)} (h:Blk w u L) (k:Kept (fun g=>∃ e∈L,e.1=g) u u'):Below w.heap.size w u' :=
 h.below.trans ⟨k.os,k.tape,k.output,k.size,fun i hi=>k.block i (Nat.lt_of_lt_of_le hi h.below.size) (by
  rintro ⟨e,he,rfl⟩
  obtain ⟨j,hj,e2⟩:=List.getElem_of_mem he
  have:=h.low j (g:=e.1) (c:=e.2.1) (t:=e.2.2) (by rw [List.getElem?_eq_getElem hj,e2])
  omega)⟩
theorem rowI_srcb {w:World} {a:Option Addr} {len cap:Nat} {zs:List Int} (h:RowI .u8 w a len cap zs):Src w a len (zs.take len)∧bytes (zs.take len)∧len≤cap:=by
 rcases h with ⟨rfl,rfl,rfl,rfl⟩|⟨x,rfl,hl,hm,hz,hc,hw⟩
 ·exact ⟨⟨rfl,fun i hi=>absurd hi (by omega)⟩,fun x hx=>by simp at hx,Nat.le_refl _⟩
 ·refine ⟨⟨by simp;omega,fun i hi=>⟨x,rfl,?_⟩⟩,fun y hy=>wf_u8 (hw y (List.mem_of_mem_take hy)),hl⟩
  rw [hc i (by omega)]
  simp [List.getD,hi]
end Go.Proofs.YtodnkallpfkdiaaDoor.Ce
