/- Stops and certificates that come in as arguments, opened. Condition: the argument reads. -/
import Derived.Test.YtodnkallpfkdiaaDoorCe
import Derived.Test.YtodnkallpfkdiaaDoorMy
set_option maxRecDepth 100000
set_option maxHeartbeats 16000000
set_option linter.unusedSimpArgs false
set_option linter.unusedVariables false
namespace Go.Proofs.YtodnkallpfkdiaaDoor.Ce
open Go.RowKit Go.ChangeShapes Go.WideShapes Lm Fp Cu Sl Sc
/-- A stop of noughts. -/
def stop0:Array Value:=stopC 0 (List.replicate 64 0)
/-- A certificate of noughts. -/
def certN:Array Value:=certC 0 (List.replicate 32 0) (List.replicate 64 0)
section
variable {H:Type} {enc:TypeId×Value→H} {w:World} {base:Nat} {spare:Nat→Bool} {held:Bool} {r:Reach} {b0:Nat} {v:Value} {d:DataW H} {p:List MemPlace}
theorem i64_wf {x:Int} (h:(Lit.int .i64 x).wf=true) : -9223372036854775808≤x∧x≤9223372036854775807:=(wf_i64 h)
theorem open_stop (hv:Value.okWide Tryd.prog w r b0 52 v) (h:DataW.Trod enc Tryd.prog w base spare held 52 v d p) :
  ∃ (id:Int) (gs:List Int),v = .agg (stopC id gs)∧gs.length=64∧bytes gs∧(-9223372036854775808≤id∧id≤9223372036854775807):=by
 obtain ⟨cs,rfl,hsz⟩:=okWide_struct Tryd.underlying52 hv
 obtain ⟨fuel,hf⟩:=h
 obtain ⟨hl,n,hx⟩:=flds Tryd.underlying52 hf
 obtain ⟨y0,h0⟩:=hx 0 3 0 1 (by kernel_rfl) (by kernel_rfl)
 obtain ⟨y1,h1⟩:=hx 1 26 1 64 (by kernel_rfl) (by kernel_rfl)
 obtain ⟨id,e0,w0⟩:=fld_int Tryd.underlying3 h0
 obtain ⟨gs,e1,l1,w1⟩:=fld_arr Tryd.underlying26 Tryd.underlying5 (by kernel_rfl) (by kernel_rfl) h1
 have hc:(Value.agg cs).cells.toList=cs.toList:=rfl
 rw [hc] at e0 e1 hl
 have hl:cs.toList.length=65:=hl.trans (by kernel_rfl)
 refine ⟨id,gs,?_,l1,fun x hx=>wf_u8 (w1 x hx),i64_wf w0⟩
 congr 1
 apply Array.ext'
 rw [show cs.toList=(cs.toList.drop 0).take 1 ++ (cs.toList.drop 1).take 64 by
  rw [List.drop_zero,List.take_of_length_le (show (cs.toList.drop 1).length≤64 by rw [List.length_drop,hl];decide)]
  exact (List.take_append_drop 1 _).symm,e0,e1]
 simp [stopC,arr]
theorem open_cert (hv:Value.okWide Tryd.prog w r b0 28 v) (h:DataW.Trod enc Tryd.prog w base spare held 28 v d p) :
  ∃ (id:Int) (ks gs:List Int),v = .agg (certC id ks gs)∧ks.length=32∧bytes ks∧gs.length=64∧bytes gs∧(-9223372036854775808≤id∧id≤9223372036854775807):=by
 obtain ⟨cs,rfl,hsz⟩:=okWide_struct Tryd.underlying28 hv
 obtain ⟨fuel,hf⟩:=h
 obtain ⟨hl,n,hx⟩:=flds Tryd.underlying28 hf
 obtain ⟨y0,h0⟩:=hx 0 3 0 1 (by kernel_rfl) (by kernel_rfl)
 obtain ⟨y1,h1⟩:=hx 1 23 1 32 (by kernel_rfl) (by kernel_rfl)
 obtain ⟨y2,h2⟩:=hx 2 26 33 64 (by kernel_rfl) (by kernel_rfl)
 obtain ⟨id,e0,w0⟩:=fld_int Tryd.underlying3 h0
 obtain ⟨ks,e1,l1,w1⟩:=fld_arr Tryd.underlying23 Tryd.underlying5 (by kernel_rfl) (by kernel_rfl) h1
 obtain ⟨gs,e2,l2,w2⟩:=fld_arr Tryd.underlying26 Tryd.underlying5 (by kernel_rfl) (by kernel_rfl) h2
 have hc:(Value.agg cs).cells.toList=cs.toList:=rfl
 rw [hc] at e0 e1 e2 hl
 have hl:cs.toList.length=97:=hl.trans (by kernel_rfl)
 refine ⟨id,ks,gs,?_,l1,fun x hx=>wf_u8 (w1 x hx),l2,fun x hx=>wf_u8 (w2 x hx),i64_wf w0⟩
 congr 1
 apply Array.ext'
 have s1:=(List.take_append_drop 1 cs.toList).symm
 have s2:=(List.take_append_drop 32 (cs.toList.drop 1)).symm
 rw [List.drop_drop] at s2
 have s3:(cs.toList.drop 33).take 64=cs.toList.drop 33:=List.take_of_length_le (by rw [List.length_drop,hl];decide)
 rw [List.drop_zero] at e0
 rw [s1,s2,← s3,e0,e1,e2]
 simp [certC,arr]
end
end Go.Proofs.YtodnkallpfkdiaaDoor.Ce
