/- copy of bytes into a part of a block, whatever its cells; of nil too. Over any world; no condition. -/
import Derived.Test.YtodnkallpfkdiaaDoorMx
import Derived.Test.YtodnkallpfkdiaaDoorMa
namespace Go.Proofs.YtodnkallpfkdiaaDoor
open Go.RowKit
set_option linter.unusedSimpArgs false
set_option linter.unusedVariables false
theorem run_copyC (w:World) (ty:TypeId) (g off m c n cs:Nat) (sa:Option Addr) (cur:Array Value) (xs:List Int) (t:TypeId) (hg:w.heap[g]? = some (.cells cur t (0,0))) (hsrc:Src w sa n xs) (hnm:n≤m) (hfit:off+n≤cur.size) :
  ∃ w',(Builtin.copy_ #[24, 24] ty #[.slice (some ⟨g,off,none⟩) m c, .slice sa n cs]).run Tryd.prog w = .ok (.int .i64 (n:Int)) w'∧w'.heap[g]? = some (.cells (cur.toList.take off ++ xs.map (Value.int .u8) ++ cur.toList.drop (off+n)).toArray t (0,0))∧Kept (fun x=>x=g) w w':=by
 have hl:=hsrc.len
 rcases Nat.eq_zero_or_pos n with h0|h0
 ·subst h0
  refine ⟨w,run_copy_none (P := Tryd.prog) w 24 24 ty 5 _ sa m c 0 cs Tryd.underlying24 (by kernel_rfl) (by simp),?_,Kept.refl _ _⟩
  rw [List.eq_nil_of_length_eq_zero hl,List.map_nil,List.append_nil,Nat.add_zero,List.take_append_drop]
  exact hg
 ·obtain ⟨ad,rfl, -⟩:=hsrc.cell 0 h0
  have hrun:=run_copy_row (P := Tryd.prog) w 24 24 ty 5 g off m c ad n cs cur t (xs.map (Value.int .u8)) Tryd.underlying24 (by kernel_rfl) hg (by rw [List.length_map,hl];exact (Nat.min_eq_left hnm).symm) (src_news hsrc _ rfl) (by rw [List.length_map,hl];exact hfit) (one_ints _ _)
  rw [List.length_map,hl] at hrun
  exact ⟨_,hrun,setRow_heap w g _ _ t _ hg,⟨rfl,rfl,rfl,by simp [World.setRow],fun k _ hne=>setRow_other w g k _ hne⟩⟩
theorem step_copyC {w:World} {ops:Array Oper} {o:Oper} {a:Act} {K:Act→World→Prop} {Q:Exit→Act→World→Prop} {E:Prop} (hgd:o.guard=none) (d s:Operand)
  (ho:o.op = .call { callee := .builtin .copy,args := #[d,s],argTypes := #[24, 24] }) (g off m c n cs:Nat) (sa:Option Addr) (cur:Array Value) (xs:List Int) (t:TypeId)
  (hd:a.eval d = .slice (some ⟨g,off,none⟩) m c) (hs:a.eval s = .slice sa n cs) (hg:w.heap[g]? = some (.cells cur t (0,0))) (hsrc:Src w sa n xs) (hnm:n≤m) (hfit:off+n≤cur.size)
  (h:∀ w',w'.heap[g]? = some (.cells (cur.toList.take off ++ xs.map (Value.int .u8) ++ cur.toList.drop (off+n)).toArray t (0,0))→Kept (fun x=>x=g) w w'→K (a.put o.dst (.int .i64 (n:Int))) w') :
  if Region.wanted o (yielded ops a.tmps)=true then Oper.wp Tryd.prog o a w K Q else E:=by
 rw [if_pos (by simp [Region.wanted,hgd])]
 obtain ⟨w',hrun,h1,h2⟩:=run_copyC w o.type g off m c n cs sa cur xs t hg hsrc hnm hfit
 unfold Oper.wp execOp
 simp only [ho,resolve,invoke,builtin,Sem.run_bind,Sem.run_pure,Result.andThen_ok,List.map_toArray,List.map_cons,List.map_nil,hd,hs,hrun]
 exact h w' h1 h2
theorem wpList_copyC {w:World} {ops:Array Oper} {rest:List Oper} {o:Oper} {a:Act} {Q:Exit→Act→World→Prop} (hgd:o.guard=none) (d s:Operand)
  (ho:o.op = .call { callee := .builtin .copy,args := #[d,s],argTypes := #[24, 24] }) (g off m c n cs:Nat) (sa:Option Addr) (cur:Array Value) (xs:List Int) (t:TypeId)
  (hd:a.eval d = .slice (some ⟨g,off,none⟩) m c) (hs:a.eval s = .slice sa n cs) (hg:w.heap[g]? = some (.cells cur t (0,0))) (hsrc:Src w sa n xs) (hnm:n≤m) (hfit:off+n≤cur.size)
  (h:∀ w',w'.heap[g]? = some (.cells (cur.toList.take off ++ xs.map (Value.int .u8) ++ cur.toList.drop (off+n)).toArray t (0,0))→Kept (fun x=>x=g) w w'→wpList Tryd.prog ops Q rest (a.put o.dst (.int .i64 (n:Int))) w') :
  wpList Tryd.prog ops Q (o :: rest) a w:=by
 refine wpList_plain hgd fun _ hK=>?_
 obtain ⟨w',hrun,h1,h2⟩:=run_copyC w o.type g off m c n cs sa cur xs t hg hsrc hnm hfit
 unfold Oper.wp execOp
 simp only [ho,resolve,invoke,builtin,Sem.run_bind,Sem.run_pure,Result.andThen_ok,List.map_toArray,List.map_cons,List.map_nil,hd,hs,hrun]
 exact hK _ _ (h w' h1 h2)
end Go.Proofs.YtodnkallpfkdiaaDoor
