/- What a signature is, in plain words. portcullislaw13.alive: cert.May, cert.body: Certificates and stops in plain words, and what chapter 16's alive asks of them. cert.Check: Builds. Condition: as each theorem says. -/
import Derived.BigRegion
import Derived.Deep.DeepCutAuto
import Derived.Deep.MidRow
import Derived.Deep.RegionHeld3
import Derived.Laws.CopyOwn
import Derived.Laws.Cover3
import Derived.Lib.SlBytesConst
import Derived.Shelf.Bits.Mul64
import Derived.Shelf.Spec.BitsCarry
import Derived.StillTailTactics
import Derived.Test.YthdgbgleklkaiaaDoorQa01
import Derived.Test.YthdgbgleklkaiaaDoorQa02
import Derived.Test.YthdgbgleklkaiaaDoorQa03
import Derived.Test.YthdgbgleklkaiaaDoorQa05
import Derived.Test.YthdgbgleklkaiaaDoorQa06
import Derived.Test.YthdgbgleklkaiaaDoorQa07
import Derived.Test.YthdgbgleklkaiaaDoorQa09
import Derived.Test.YthdgbgleklkaiaaDoorQa10
import Derived.Test.YthdgbgleklkaiaaDoorQa18
import Derived.Test.YthdgbgleklkaiaaDoorQa19
import Derived.Test.YthdgbgleklkaiaaDoorQa20
set_option linter.unusedSimpArgs false
set_option linter.unusedVariables false
set_option maxRecDepth 100000
set_option maxHeartbeats 16000000
namespace Go.Proofs.YthdgbgleklkaiaaDoor.Cu
open Go.RowKit Lm Fp Sc
def wide (xs:List Int):Nat:=eY (Hb.hash xs) % q
def jJ (seed:Nat):Nat:=clamp (eY ((Hb.hash (n32 seed)).take 32))
def jI (seed:Nat):List Int:=(Hb.hash (n32 seed)).drop 32
def xC (seed:Nat):Nat:=lu (jU base (jJ seed) 256)
def vk (seed:Nat) (b:List Int):Nat:=lu (jU base (wide (jI seed ++ b)) 256)
def LB (seed:Nat) (b:List Int):Nat:=(wide (jI seed ++ b)+wide (n32 (vk seed b) ++ (n32 (xC seed) ++ b)) * jJ seed % q) % q
def ko (seed:Nat) (b:List Int):List Int:=n32 (vk seed b) ++ n32 (LB seed b)
theorem o8 (m:List Int):bytes (Hb.hash m):=by
 intro x hx
 simp only [Hb.hash,Hb.digest,List.mem_map,List.mem_range] at hx
 obtain ⟨i,_,rfl⟩:=hx
 omega
end Go.Proofs.YthdgbgleklkaiaaDoor.Cu
namespace Go.Proofs.YthdgbgleklkaiaaDoor.Sl
open Go.RowKit Lm Fp Cu Rd Sc
theorem gN (s:Nat) (b:List Int):(ko s b).length=64:=by rw [ko,List.length_append,bW,bW]
theorem pF (s:Nat) (b:List Int):bytes (ko s b):=gq (eH _) (eH _)
theorem epub_lt (s:Nat):xC s < 256 ^ 32:=RA _
end Go.Proofs.YthdgbgleklkaiaaDoor.Sl
namespace Go.Proofs.YthdgbgleklkaiaaDoor.Ce
open Go.RowKit
def xu (id:Int):Bool:=decide (0≤id) && decide (id≤2147483647)
theorem tJ (id:Int) (w:World):Calls Tryd.prog 40 #[.int .i64 id] w fun e w'=>e = .returned (.bool (xu id))∧w=w':=by
 go_enter Tryd.func40, Tryd.ntmps40
 go_wp2_with fail
 all_goals (try simp only [Exit.then])
 ·go_ret
  rename_i h
  refine ⟨?_,rfl⟩
  rw [xu,decide_eq_true h,Bool.true_and]
  rfl
 ·go_ret
  rename_i h
  refine ⟨?_,rfl⟩
  rw [xu,decide_eq_false (by omega),Bool.false_and]
  rfl
end Go.Proofs.YthdgbgleklkaiaaDoor.Ce
namespace Go.Proofs.YthdgbgleklkaiaaDoor.Ce
open Go.RowKit Lm Fp Cu Sl Sc
def nY (id:Int) (key:Nat):List Int:=iy [80,67,67,84] [id] ++ n32 key
theorem RY (id:Int) (key:Nat):(nY id key).length=44:=by rw [nY,List.length_append,fU,bW];rfl
theorem jN {bs ns:List Int} (h:bytes bs):bytes (iy bs ns):=by
 intro x hx
 simp only [iy,List.mem_append,List.mem_flatMap] at hx
 rcases hx with hx|⟨n,_,hx⟩
 ·exact h x hx
 ·exact kP n x hx
theorem Ij (id:Int) (key:Nat):bytes (nY id key):=gq (jN (by unfold bytes;decide)) (eH key)
end Go.Proofs.YthdgbgleklkaiaaDoor.Ce
namespace Go.Proofs.YthdgbgleklkaiaaDoor.Ce
open Go.RowKit Lm Fp Cu Sl Sc
theorem rowS:Sj Tryd.prog 26 64:=⟨⟨_, Tryd.underlying26, rfl⟩,by kernel_rfl⟩
def isB (xs:List Int) (u:World) (v:Value):Prop:=∃ s c,v = .slice s xs.length c∧xs.length≤c∧Src u s xs.length xs
theorem isB.below {xs:List Int} (u u':World) (v:Value) (k:Below u.heap.size u u') (h:isB xs u v):isB xs u' v:=by
 obtain ⟨s,c,e,h1,h2⟩:=h
 exact ⟨s,c,e,h1,h2.below k⟩
theorem isB.own {xs:List Int} {u:World} {B:Nat} {v:Value} (h:aV u B v xs):isB xs u v:=by
 obtain ⟨s,c,e,h1,_,h2,_⟩:=h.form
 exact ⟨s,c,e,h1,h2⟩
def isL (L:List (List Int)) (u:World) (v:Value):Prop:=∃ g,v = .slice (some ⟨g,0,none⟩) L.length L.length∧qD u (some ⟨g,0,none⟩) L.length L
theorem isL.below {L:List (List Int)} (u u':World) (v:Value) (k:Below u.heap.size u u') (h:isL L u v):isL L u' v:=by
 obtain ⟨g,e,h1⟩:=h
 exact ⟨g,e,h1.below k⟩
def dh (id:Int) (ks gs:List Int):Array Value := #[.int .i64 id] ++ arr .u8 ks ++ arr .u8 gs
theorem Zq (id:Int) (ks gs:List Int):(dh id ks gs)[0]? = some (.int .i64 id):=by simp [dh,arr]
end Go.Proofs.YthdgbgleklkaiaaDoor.Ce
namespace Go.Proofs.YthdgbgleklkaiaaDoor.Ce
open Go.RowKit Lm Fp Cu Sl Sc
theorem pE (place:Nat→Option (Nat×Nat)) (X Y:List Value) (v:Value) (i off:Nat) (rest:List (Nat×Value)) (ho:off=X.length) (hp:place i=some (off,v.cells.size)) (hY:v.cells.size≤Y.length) :
  Instr.fill place (X ++ Y).toArray ((i,v) :: rest)=Instr.fill place (X ++ v.cells.toList ++ Y.drop v.cells.size).toArray rest:=by
 subst ho
 rw [CR _ _ _ _ _ X.length hp (by simp;omega)]
 congr 1
 simp only
 congr 1
 have e1:List.take X.length (X ++ Y)=X:=List.take_left' rfl
 have e2:List.drop (X.length+v.cells.size) (X ++ Y)=Y.drop v.cells.size:=by
  rw [List.drop_append,List.drop_eq_nil_of_le (by simp),Nat.add_sub_cancel_left,List.nil_append]
 rw [e1,e2]
theorem uM (w:World):(zeroValue 28).run Tryd.prog w = .ok (.agg (dh 0 (List.replicate 32 0) (List.replicate 64 0))) w:=by kernel_rfl
theorem kK:(Tryd.prog.info? 28).map (·.size)=some 97:=by kernel_rfl
theorem jD {id:Int} {ks gs:List Int} (h:gs.length=64) (hk:ks.length=32):(dh id ks gs).size=97:=by simp [dh,arr,h,hk]
theorem Io (w:World):(Instr.build 28 #[]).run Tryd.prog w = .ok (.agg (dh 0 (List.replicate 32 0) (List.replicate 64 0))) w:=by kernel_rfl
theorem Rx (id:Int) (ks gs:List Int) (hk:ks.length=32) (h:gs.length=64) (z:List Value) (hz:z.length=97):Instr.fill (fun x => #[((0:Nat),1),(1,32),(33,64)][x]?) z.toArray [(0, .int .i64 id),(1, .agg (arr .u8 ks)),(2, .agg (arr .u8 gs))]=some (dh id ks gs):=by
 have h0:=pE (fun x => #[((0:Nat),1),(1,32),(33,64)][x]?) [] z (.int .i64 id) 0 0 [(1, .agg (arr .u8 ks)),(2, .agg (arr .u8 gs))] rfl rfl (by simp [Value.cells,hz])
 have h1:=pE (fun x => #[((0:Nat),1),(1,32),(33,64)][x]?) [.int .i64 id] (z.drop 1) (.agg (arr .u8 ks)) 1 1 [(2, .agg (arr .u8 gs))] rfl (by simp [Value.cells,arr,hk]) (by simp [Value.cells,arr,hk,hz])
 have h2:=pE (fun x => #[((0:Nat),1),(1,32),(33,64)][x]?) ([.int .i64 id] ++ (arr .u8 ks).toList) ((z.drop 1).drop 32) (.agg (arr .u8 gs)) 2 33 [] (by simp [arr,hk]) (by simp [Value.cells,arr,h]) (by simp [Value.cells,arr,h,hz])
 have ek:(Value.agg (arr .u8 ks)).cells.size=32:=by simp [Value.cells,arr,hk]
 rw [List.nil_append] at h0
 rw [ek] at h1
 rw [h0]
 refine h1.trans (h2.trans ?_)
 rw [Instr.fill]
 have e:((z.drop 1).drop 32).drop (Value.agg (arr .u8 gs)).cells.size=[]:=List.drop_eq_nil_of_le (by simp [Value.cells,arr,h,hz])
 rw [e]
 simp [dh,Value.cells]
theorem Md (id:Int) (ks gs:List Int) (hk:ks.length=32) (h:gs.length=64) (w:World):(Instr.build 28 #[(0, .int .i64 id),(1, .agg (arr .u8 ks)),(2, .agg (arr .u8 gs))]).run Tryd.prog w = .ok (.agg (dh id ks gs)) w:=by
 unfold Instr.build
 simp only [Sem.run_bind,uM,Result.andThen_ok,run_underlying Tryd.underlying28]
 refine (congrArg (fun R=>Result.andThen R _) (show _=Result.ok #[((0:Nat),1),(1,32),(33,64)] w from ?h)).trans ?_
 case h=>kernel_rfl
 simp only [Result.andThen_ok]
 have hf:=Rx id ks gs hk h (dh 0 (List.replicate 32 0) (List.replicate 64 0)).toList (by simp [dh,arr])
 rw [show (Value.agg (dh 0 (List.replicate 32 0) (List.replicate 64 0))).cells=(dh 0 (List.replicate 32 0) (List.replicate 64 0)).toList.toArray by simp [Value.cells],hf]
 rfl
end Go.Proofs.YthdgbgleklkaiaaDoor.Ce
namespace Go.Proofs.YthdgbgleklkaiaaDoor
open Go.RowKit
theorem Qw (w:World) (ty:TypeId) (g off m c n cs:Nat) (sa:Option Addr) (cur:Array Value) (xs:List Int) (t:TypeId) (hg:w.heap[g]? = some (.cells cur t (0,0))) (hsrc:Src w sa n xs) (hnm:n≤m) (hfit:off+n≤cur.size) :
  ∃ w',(Builtin.copy_ #[24, 24] ty #[.slice (some ⟨g,off,none⟩) m c, .slice sa n cs]).run Tryd.prog w = .ok (.int .i64 (n:Int)) w'∧w'.heap[g]? = some (.cells (cur.toList.take off ++ xs.map (Value.int .u8) ++ cur.toList.drop (off+n)).toArray t (0,0))∧Kept (fun x=>x=g) w w':=by
 have hl:=hsrc.len
 rcases Nat.eq_zero_or_pos n with h0|h0
 ·subst h0
  refine ⟨w,run_copy_none (P := Tryd.prog) w 24 24 ty 5 _ sa m c 0 cs Tryd.underlying24 (by kernel_rfl) (by simp),?_,Kept.refl _ _⟩
  rw [List.eq_nil_of_length_eq_zero hl,List.map_nil,List.append_nil,Nat.add_zero,List.take_append_drop]
  exact hg
 ·obtain ⟨ad,rfl, -⟩:=hsrc.cell 0 h0
  have hrun:=run_copy_row (P := Tryd.prog) w 24 24 ty 5 g off m c ad n cs cur t (xs.map (Value.int .u8)) Tryd.underlying24 (by kernel_rfl) hg (by rw [List.length_map,hl];exact (Nat.min_eq_left hnm).symm) (jf hsrc _ rfl) (by rw [List.length_map,hl];exact hfit) (mF _ _)
  rw [List.length_map,hl] at hrun
  exact ⟨_,hrun,setRow_heap w g _ _ t _ hg,⟨rfl,rfl,rfl,by simp [World.setRow],fun k _ hne=>setRow_other w g k _ hne⟩⟩
theorem yM {w:World} {ops:Array Oper} {o:Oper} {a:Act} {K:Act→World→Prop} {Q:Exit→Act→World→Prop} {E:Prop} (hgd:o.guard=none) (d s:Operand)
  (ho:o.op = .call { callee := .builtin .copy,args := #[d,s],argTypes := #[24, 24] }) (g off m c n cs:Nat) (sa:Option Addr) (cur:Array Value) (xs:List Int) (t:TypeId)
  (hd:a.eval d = .slice (some ⟨g,off,none⟩) m c) (hs:a.eval s = .slice sa n cs) (hg:w.heap[g]? = some (.cells cur t (0,0))) (hsrc:Src w sa n xs) (hnm:n≤m) (hfit:off+n≤cur.size)
  (h:∀ w',w'.heap[g]? = some (.cells (cur.toList.take off ++ xs.map (Value.int .u8) ++ cur.toList.drop (off+n)).toArray t (0,0))→Kept (fun x=>x=g) w w'→K (a.put o.dst (.int .i64 (n:Int))) w') :
  if Region.wanted o (yielded ops a.tmps)=true then Oper.wp Tryd.prog o a w K Q else E:=by
 rw [if_pos (by simp [Region.wanted,hgd])]
 obtain ⟨w',hrun,h1,h2⟩:=Qw w o.type g off m c n cs sa cur xs t hg hsrc hnm hfit
 unfold Oper.wp execOp
 simp only [ho,resolve,invoke,builtin,Sem.run_bind,Sem.run_pure,Result.andThen_ok,List.map_toArray,List.map_cons,List.map_nil,hd,hs,hrun]
 exact h w' h1 h2
end Go.Proofs.YthdgbgleklkaiaaDoor
namespace Go.Proofs.YthdgbgleklkaiaaDoor.Ms
open Go.RowKit
def kT (a b c d:List Int):Array Value:=arr .u8 (a ++ b ++ c ++ d)
theorem Ca {a b c d:List Int} (ha:a.length=32) (hb:b.length=32) (hc:c.length=32) (hd:d.length=32):(kT a b c d).size=128:=by simp [kT,aF,ha,hb,hc,hd]
theorem oV:(Tryd.prog.info? 23).map (·.size)=some 32:=by kernel_rfl
def secret (seed:Int) (s:ByteArray):List Int:=Ha.hash (jo seed ++ gQ s)
theorem JA (seed:Int) (s:ByteArray):(secret seed s).length=32:=Ha.dZ _
def OE (i:Nat):ByteArray:=([⟨#[114,111,111,116]⟩,⟨#[115,105,103,110,101,114]⟩,⟨#[100,101,118,105,99,101]⟩,⟨#[107,101,121]⟩]:List ByteArray).getD i ⟨#[]⟩
theorem U2 (i:Nat):(OE i).size≤1000:=by
 unfold OE
 match i with
 | 0=>decide
 | 1=>decide
 | 2=>decide
 | 3=>decide
 | (n+4)=>exact (show (0:Nat)≤1000 by decide)
def sec (seed:Int) (i:Nat):List Int:=secret seed (OE i)
theorem eu (seed:Int) (i:Nat):(sec seed i).length=32:=JA _ _
theorem uU {a b c d:List Int} (ha:a.length=32) (hb:b.length=32) (hc:c.length=32) (hd:d.length=32) :
  ((kT a b c d).toList.drop 0).take a.length=a.map (Value.int .u8)∧((kT a b c d).toList.drop 32).take b.length=b.map (Value.int .u8)∧((kT a b c d).toList.drop 64).take c.length=c.map (Value.int .u8)∧((kT a b c d).toList.drop 96).take d.length=d.map (Value.int .u8):=by
 have e:(kT a b c d).toList=a.map (Value.int .u8) ++ (b.map (Value.int .u8) ++ (c.map (Value.int .u8) ++ d.map (Value.int .u8))):=by simp [kT,arr]
 have hA:(a.map (Value.int .u8)).length=32:=by simp [ha]
 have hB:(b.map (Value.int .u8)).length=32:=by simp [hb]
 have hC:(c.map (Value.int .u8)).length=32:=by simp [hc]
 have hD:(d.map (Value.int .u8)).length=32:=by simp [hd]
 rw [e,ha,hb,hc,hd]
 generalize a.map (Value.int .u8)=A at hA ⊢
 generalize b.map (Value.int .u8)=B at hB ⊢
 generalize c.map (Value.int .u8)=C at hC ⊢
 generalize d.map (Value.int .u8)=D at hD ⊢
 refine ⟨?_,?_,?_,?_⟩ <;> simp [List.drop_append,hA,hB,hC,hD,List.take_of_length_le,List.drop_eq_nil_of_le]
theorem _root_.Go.Proofs.YthdgbgleklkaiaaDoor.Kept.Qo {T:Nat→Prop} {a b c:World} (h:Kept T a b) (k:Below a.heap.size b c):Kept T a c :=
 ⟨k.os.trans h.os,k.tape.trans h.tape,k.output.trans h.output,Nat.le_trans h.size k.size,fun i hi ht=>(k.block i hi).trans (h.block i hi ht)⟩
theorem _root_.Go.Proofs.YthdgbgleklkaiaaDoor.Ha.eB.kept {T:Nat→Prop} {w w':World} (h:Ha.eB w) (k:Kept T w w') (ht:¬ T 0):Ha.eB w':=fun t h64=>k.lM (h t h64) ht
theorem R5 (seed:Int) (s:ByteArray):bytes (jo seed ++ gQ s):=fun x hx=>by
 rcases List.mem_append.1 hx with h|h
 ·exact kP seed x h
 ·exact EK s x h
def kl (seed:Int) (j:Nat):List Int:=((List.range j).map (sec seed)).flatten ++ List.replicate (32 * (4 - j)) 0
theorem OM (seed:Int) (j:Nat):(((List.range j).map (sec seed)).flatten).length=32 * j:=by
 induction j with
 | zero=>rfl
 | succ j ih=>rw [List.range_succ,List.map_append,List.flatten_append,List.length_append,ih];simp [eu];omega
theorem kl_len (seed:Int) (j:Nat) (hj:j≤4):(kl seed j).length=128:=by rw [kl,List.length_append,OM,List.length_replicate];omega
theorem kl_succ (seed:Int) (j:Nat) (hj:j < 4):((arr .u8 (kl seed j)).toList.take (32 * j) ++ (arr .u8 (sec seed j)).toList ++ (arr .u8 (kl seed j)).toList.drop (32 * j+(arr .u8 (sec seed j)).size)).toArray=arr .u8 (kl seed (j+1)):=by
 have h:=OM seed j
 rw [bQ,bQ,aF,eu,kl,List.map_append]
 have hX:(((List.range j).map (sec seed)).flatten.map (Value.int .u8)).length=32 * j:=by rw [List.length_map,h]
 rw [List.take_left' hX,List.drop_append,List.drop_eq_nil_of_le (by rw [hX];omega),hX,List.nil_append,show 32 * j+32 - 32 * j=32 by omega,← List.map_drop,List.drop_replicate]
 simp only [arr,kl,List.range_succ,List.map_append,List.flatten_append,List.map_cons,List.map_nil,List.flatten_cons,List.flatten_nil,List.append_nil]
 rw [show 32 * (4 - j) - 32=32 * (4 - (j+1)) by omega]
theorem kl_four (seed:Int):arr .u8 (kl seed 4)=kT (sec seed 0) (sec seed 1) (sec seed 2) (sec seed 3):=by
 rw [kT,kl]
 congr 1
theorem zeroK (w:World):(zeroValue 68).run Tryd.prog w = .ok (.agg (arr .u8 (List.replicate 128 0))) w:=by kernel_rfl
theorem F9 (w:World):(zeroValue 47).run Tryd.prog w = .ok (.agg (arr .u8 (List.replicate 128 0))) w:=by kernel_rfl
theorem LX (a b c d:List Int) (ha:a.length=32) (hb:b.length=32) (hc:c.length=32) (hd:d.length=32) (w:World) :
  (Instr.build 47 #[(0, .agg (arr .u8 a)),(1, .agg (arr .u8 b)),(2, .agg (arr .u8 c)),(3, .agg (arr .u8 d))]).run Tryd.prog w = .ok (.agg (kT a b c d)) w:=by
 unfold Instr.build
 simp only [Sem.run_bind,F9,Result.andThen_ok,run_underlying Tryd.underlying47]
 refine (congrArg (fun R=>Result.andThen R _) (show _=Result.ok #[((0:Nat),32),(32,32),(2 * 32,32),(3 * 32,32)] w from ?h)).trans ?_
 case h=>kernel_rfl
 simp only [Result.andThen_ok]
 rw [show (Value.agg (arr .u8 (List.replicate 128 0))).cells=arr .u8 (List.replicate 128 0) from rfl,fill4 .u8 32 a b c d (List.replicate 128 0) ha hb hc hd (by simp)]
 rfl
theorem Cz:(Tryd.prog.info? 47).map (·.size)=some 128:=by kernel_rfl
theorem nm_row (j:Nat) (hj:j < 4):(#[.string ⟨#[114,111,111,116]⟩, .string ⟨#[115,105,103,110,101,114]⟩, .string ⟨#[100,101,118,105,99,101]⟩, .string ⟨#[107,101,121]⟩]:Array Value)[j]? = some (.string (OE j)):=by
 match j,hj with
 | 0,_=>rfl
 | 1,_=>rfl
 | 2,_=>rfl
 | 3,_=>rfl
theorem Qt (seed:Int) (w:World) (hw : -9223372036854775808≤seed∧seed≤9223372036854775807) (hT:Ha.eB w) :
  Calls Tryd.prog 15 #[.int .i64 seed] w fun e w'=>e = .returned (.agg (kT (sec seed 0) (sec seed 1) (sec seed 2) (sec seed 3)))∧Below w.heap.size w w':=by
 obtain ⟨zs,hzs⟩:∃ zs:List Int,zs=List.replicate 128 0:=⟨_,rfl⟩
 have hz:∀ w,(zeroValue 47).run Tryd.prog w = .ok (.agg (arr .u8 zs)) w:=by intro w;rw [hzs];exact F9 w
 have hk0:zs=kl seed 0:=by rw [hzs];rfl
 have hzk:∀ w,(zeroValue 68).run Tryd.prog w = .ok (.agg (arr .u8 zs)) w:=by intro w;rw [hzs];exact zeroK w
 have hzl:zs.length=128:=by rw [hzs];rfl
 obtain ⟨SR,hSR⟩:∃ x:Array Value,x = #[.string ⟨#[114,111,111,116]⟩, .string ⟨#[115,105,103,110,101,114]⟩, .string ⟨#[100,101,118,105,99,101]⟩, .string ⟨#[107,101,121]⟩]:=⟨_,rfl⟩
 have hnm:∀ j,j < 4→SR[j]? = some (.string (OE j)):=by rw [hSR];exact nm_row
 have M1:=fun w=>fO seed w hw
 have M2:=fun (j:Nat) sa c w hs ht=>Ha.kE sa (8+(OE j).size) c (jo seed ++ gQ (OE j)) w hs (R5 _ _) (by have:=U2 j;omega) ht
 have hse:∀ j,Ha.hash (jo seed ++ gQ (OE j))=sec seed j:=fun j=>rfl
 have hbl:=gW seed
 have hsb:=fun j=>yQ (OE j)
 have hnl:=U2
 have hsl:=eu seed
 have hkl:=kl_len seed
 have hks:=kl_succ seed
 have hk4:=kl_four seed
 have hgt:=hT.lt
 have hbd:=fun w=>LX (sec seed 0) (sec seed 1) (sec seed 2) (sec seed 3) (eu _ _) (eu _ _) (eu _ _) (eu _ _) w
 have hsz:=Ca (eu seed 0) (eu seed 1) (eu seed 2) (eu seed 3)
 have hpt:=uU (eu seed 0) (eu seed 1) (eu seed 2) (eu seed 3)
 have O0:(kT (sec seed 0) (sec seed 1) (sec seed 2) (sec seed 3)).all (·.oneCell')=true:=av _ _
 simp only [hse] at M2
 obtain ⟨b8,jH⟩:∃ x,x=jo seed:=⟨_,rfl⟩
 rw [← jH] at M1 hbl
 simp only [← jH] at M2
 clear hse
 obtain ⟨SC,hSC⟩:∃ x,x=sec seed:=⟨_,rfl⟩
 rw [← hSC] at hsl hks hk4 hbd hsz hpt O0 ⊢
 simp only [← hSC] at M2
 obtain ⟨KL,hKL⟩:∃ x,x=kl seed:=⟨_,rfl⟩
 rw [← hKL] at hkl hks hk4 hk0
 obtain ⟨ST,hST⟩:∃ x,x=kT (SC 0) (SC 1) (SC 2) (SC 3):=⟨_,rfl⟩
 rw [← hST] at hk4 hbd hsz hpt O0 ⊢
 obtain ⟨NM,hNM⟩:∃ x,x=OE:=⟨_,rfl⟩
 simp only [← hNM] at hnm hsb M2
 rw [← hNM] at hnl
 obtain ⟨w2,hw2⟩:∃ x,x=((w.alloc (.cells (arr .u8 zs) 47)).alloc (.cells SR 9)).alloc (.cells (arr .u8 zs) 68):=⟨_,rfl⟩
 have hr0:w2.heap[w.heap.size]? = some (.cells (arr .u8 zs) 47 (0,0)):=by rw [hw2];exact bf (bf (aL w _) _) _
 have hr1:w2.heap[w.heap.size+1]? = some (.cells SR 9 (0,0)):=by rw [hw2];have:=bf (aL (w.alloc (.cells (arr .u8 zs) 47)) (.cells SR 9)) (.cells (arr .u8 zs) 68);rwa [World.size_alloc] at this
 have hr2:w2.heap[w.heap.size+1+1]? = some (.cells (arr .u8 zs) 68 (0,0)):=by rw [hw2];have:=aL ((w.alloc (.cells (arr .u8 zs) 47)).alloc (.cells SR 9)) (.cells (arr .u8 zs) 68);rwa [World.size_alloc,World.size_alloc] at this
 have hb2:Below w.heap.size w w2:=by rw [hw2];exact (((Below.refl _ w).alloc (Nat.le_refl _) _).alloc (by simp) _).alloc (by simp;omega) _
 have hs2:w.heap.size+1+1 < w2.heap.size:=aR hr2
 rw [hk0] at hr2
 have HZ:=Lib.hid hz
 have HZK:=Lib.hid hzk
 have uD:=Lib.hid hzl
 have F5:=Lib.hid M1
 have PD:=Lib.hid M2
 have sD:=Lib.hid hbl
 have Px:=Lib.hid hsb
 have xI:=Lib.hid hnl
 have HSL:=Lib.hid hsl
 have l9:=Lib.hid hkl
 have HKS:=Lib.hid hks
 have HK4:=Lib.hid hk4
 have HGT:=Lib.hid hgt
 have HNM:=Lib.hid hnm
 have HBD:=Lib.hid hbd
 have wS:=Lib.hid hsz
 have HPT:=Lib.hid hpt
 have HSA:=Lib.hid O0
 have ET:=Lib.hid hSR.symm
 have HW2:=Lib.hid hw2.symm
 have IE:=Lib.hid hr0
 have HR1:=Lib.hid hr1
 have HR2:=Lib.hid hr2
 have HB2:=Lib.hid hb2
 have Z5:=Lib.hid hT
 clear hz hzk hzl M1 M2 hbl hsb hnl hsl hkl hks hk4 hgt hnm hbd hsz hpt O0 hSR hw2 hr0 hr1 hr2 hb2 hs2 hT hk0 hzs jH hSC hKL hST hNM hw
 go_enter Tryd.func15, Tryd.ntmps15
 go_wp2_with (first|((with_reducible refine aS 2 ?_);refine aj rfl 47 rfl _ (HZ.out _) ?_)|((with_reducible refine aS 4 ?_);refine aj rfl 68 rfl _ (HZK.out _) ?_;(try simp only [World.size_alloc]);rw [ET.out,HW2.out]))
 go_loopw [5] (fun i wr=>∃ j:Nat,j≤4∧i = .int .i64 j∧wr.heap[w.heap.size+1+1]? = some (.cells (arr .u8 (KL j)) 68 (0,0))∧Kept (fun x=>x=w.heap.size+1+1) w2 wr) (fun i _=>4 - (intOf i).toNat)
 case atStart=>exact ⟨0,Nat.zero_le _,rfl,HR2.out,Kept.refl _ _⟩
 case round =>
  obtain ⟨j,hj,rfl,hb,hB⟩:=hrel
  have hr1:=hB.blk HR1.out (by omega)
  have hr0:=hB.blk IE.out (by omega)
  have HR0':=Lib.hid hr0
  have Dk:=Lib.hid hb
  have oD:=Lib.hid hB
  by_cases hlt:j < 4
  ·have y0:wr.cell? ⟨w.heap.size+1,j,none⟩=some (.string (NM j)):=(aG hr1 j).trans (HNM.out j hlt)
   have hTr:∀ w',Kept (fun x=>x=w.heap.size+1+1) wr w'→Ha.eB w':=fun w' k=>((Ha.eB.kept Z5.out (Kept.of_below (T:=fun _=>False) HB2.out) (fun h=>h)).kept hB (by have:=HGT.out;omega)).kept k (by have:=HGT.out;omega)
   have HTR:=Lib.hid hTr
   have HMJ:=Lib.hid (fun sa c w hs ht=>PD.out j sa c w hs ht)
   have HSJ:=Lib.hid (HSL.out j)
   have HSBJ:=Lib.hid (Px.out j)
   have HNLJ:=Lib.hid (xI.out j)
   have HKJ:=Lib.hid (l9.out j hj)
   have HKSJ:=Lib.hid (HKS.out j hlt)
   have hsq:w.heap.size+1+1 < wr.heap.size:=aR hb
   have HSQ:=Lib.hid hsq
   have hlti:(j:Int) < 4:=by omega
   clear hr0 hr1 hb hB hTr hsq
   generalize NM j=nm at y0 HMJ HSBJ HNLJ
   generalize SC j=sc at HMJ HSJ HKSJ
   generalize KL j=klj at Dk HKJ HKSJ
   go_upto_region 6 with fail
   have HB0:=Lib.hid ((Kept.refl (fun x=>x=w.heap.size+1+1) wr).drew)
   refine wp_region_held_drew (S:=(fun w'=>Kept (fun x=>x=w.heap.size+1+1) wr w')) (by kernel_rfl) (HB0.out) (fun hHeld=>?_)
   refine wpAnyH_take (i:=0) (oi:=(⟨some 11,_,_,_,_,none⟩:Oper)) (v:=?v1) rfl (by kernel_rfl) (by kernel_rfl) (by kernel_rfl) (fun _ _ _ h=>h) (Or.inl ⟨by rfl,?hy1⟩) (by assumption) ?rest1
   case hy1=>(intro w hSw;(try dsimp only at hSw);go_simp;try (with_reducible rfl))
   (try simp only [Act.put,sA,sZ,sS])
   refine wpAnyH_take (i:=1) (oi:=(⟨some 12,_,_,_,_,none⟩:Oper)) (v:=?v2) rfl (by kernel_rfl) (by kernel_rfl) (by kernel_rfl) (fun _ _ _ h=>h) (Or.inl ⟨by rfl,?hy2⟩) (by assumption) ?rest2
   case hy2=>(intro w hSw;(try dsimp only at hSw);go_simp;try (with_reducible rfl))
   (try simp only [Act.put,sA,sZ,sS])
   refine wpAnyH_take (i:=3) (oi:=(⟨some 14,_,_,_,_,none⟩:Oper)) (v:=?v3) rfl (by kernel_rfl) (by kernel_rfl) (by kernel_rfl) (fun _ _ _ h=>h) (Or.inl ⟨by rfl,?hy3⟩) (by assumption) ?rest3
   case hy3=>(intro w hSw;(try dsimp only at hSw);go_simp;try (with_reducible rfl))
   (try simp only [Act.put,sA,sZ,sS])
   refine wpAnyH_take (i:=4) (oi:=(⟨some 15,_,_,_,_,none⟩:Oper)) (v:=?v4) rfl (by kernel_rfl) (by kernel_rfl) (by kernel_rfl) (fun _ _ _ h=>h) (Or.inl ⟨by rfl,?hy4⟩) (by assumption) ?rest4
   case hy4=>(intro w hSw;(try dsimp only at hSw);go_simp;try (with_reducible rfl))
   (try simp only [Act.put,sA,sZ,sS])
   refine wpAnyH_take (i:=5) (oi:=(⟨some 16,_,_,_,_,none⟩:Oper)) (v:=?v5) rfl (by kernel_rfl) (by kernel_rfl) (by kernel_rfl) (fun _ _ _ h=>h) (Or.inl ⟨by rfl,?hy5⟩) (by assumption) ?rest5
   case hy5=>(intro w hSw;(try dsimp only at hSw);go_simp;try (with_reducible rfl))
   (try simp only [Act.put,sA,sZ,sS])
   refine wpAnyH_take (i:=6) (oi:=(⟨some 17,_,_,_,_,none⟩:Oper)) (v:=(.string nm)) rfl (by kernel_rfl) (by kernel_rfl) (by kernel_rfl) (fun _ _ _ h=>h) (Or.inl ⟨by rfl,?hy6⟩) (by assumption) ?rest6
   case hy6=>(intro w hSw;(try dsimp only at hSw);have hx:=hSw.lM y0 (fun e=>absurd e (Nat.ne_of_lt (Nat.lt_succ_self _)));go_simp;try (with_reducible rfl))
   (try simp only [Act.put,sA,sZ,sS])
   refine wpAnyH_ready (rs:=[2]) (by kernel_rfl) (by simp) ?_
   refine AllReadyH.cons (o:=(⟨some 13,_,_,_,_,none⟩:Oper)) rfl (fun K hK=>?_) AllReadyH.nil
   go_simp
   go_at_call 30
   refine (F5.out _).mono ?_
   rintro e w7 ⟨v2,rfl,ho2,dV⟩
   have eX:=Lib.hid (HB0.out.trans (Kept.of_below dV))
   have Dk:=Lib.hid (Below.blk dV Dk.out (aR Dk.out))
   have BM:=Lib.hid (ho2.mono (B':=wr.heap.size) HB0.out.size)
   obtain ⟨s2,c2,hv2, -⟩:=ho2.form
   rw [sD.out] at hv2
   subst hv2
   clear ho2
   clear dV
   (try dsimp only)
   refine hK.out _ _ (eX.out) (fun hHeld=>?_)
   clear hK K
   (try simp only [Act.put,sA,sZ,sS])
   refine wpAnyH_ready (rs:=[7]) (by kernel_rfl) (by simp) ?_
   refine AllReadyH.cons (o:=(⟨some 18,_,_,_,_,none⟩:Oper)) rfl (fun K hK=>?_) AllReadyH.nil
   refine Bu rfl (.tmp 13) (.tmp 17) 9 Tryd.underlying9 rfl wr.heap.size (.slice s2 8 c2) b8 nm ?ca1 ?ca2 BM.out (by rw [sD.out];have:=HNLJ.out;omega) eX.out.size ?_
   case ca1=>go_simp
   case ca2=>go_simp
   intro v8 w8 ho8 hg8
   have hbl8:=aQ BM.out hg8 (Below.refl _ _) eX.out.size
   have fM:=Lib.hid (eX.out.Qo hbl8)
   have Dk:=Lib.hid (Below.blk hbl8 Dk.out HSQ.out)
   obtain ⟨s4,c4,hv4, -, -, hs4, -⟩:=ho8.form
   rw [List.length_append,sD.out,HSBJ.out] at hv4 hs4
   subst hv4
   have EU:=Lib.hid hs4
   clear ho8 hg8 hbl8 hs4
   refine hK.out _ _ (fM.out) (fun hHeld=>?_)
   clear hK K
   (try simp only [Act.put])
   refine wpAnyH_ready (rs:=[8]) (by kernel_rfl) (by simp) ?_
   refine AllReadyH.cons (o:=(⟨some 19,_,_,_,_,none⟩:Oper)) rfl (fun K hK=>?_) AllReadyH.nil
   go_simp
   go_at_call 14
   refine (HMJ.out _ _ _ EU.out (HTR.out _ fM.out)).mono ?_
   rintro e w9 ⟨rfl,dG⟩
   have qd:=Lib.hid (fM.out.trans (Kept.of_below dG))
   have Dk:=Lib.hid (Below.blk dG Dk.out (aR Dk.out))
   clear dG
   (try dsimp only)
   refine hK.out _ _ (qd.out) (fun hHeld=>?_)
   clear hK K
   (try simp only [Act.put,sA,sZ,sS])
   refine wpAnyH_take (i:=9) (oi:=(⟨some 20,_,_,_,_,none⟩:Oper)) (v:=(.pointer (some ⟨w.heap.size+1+1,32 * j,none⟩))) rfl (by kernel_rfl) (by kernel_rfl) (by kernel_rfl) (fun _ _ _ h=>h) (Or.inl ⟨by rfl,?hy10⟩) (by assumption) ?rest10
   case hy10=>(intro w hSw;(try dsimp only at hSw);go_simp;try (with_reducible rfl))
   (try simp only [Act.put,sA,sZ,sS])
   refine wpAnyH_ready (rs:=[10]) (by kernel_rfl) (by simp) ?_
   refine AllReadyH.cons (o:=(⟨none,_,_,_,_,none⟩:Oper)) rfl (fun K hK=>?_) AllReadyH.nil
   refine wX rfl 23 (.tmp 20) (.tmp 19) rfl (w.heap.size+1+1) (32 * j) (arr .u8 klj) (arr .u8 sc) 68 Dk.out rfl rfl (by rw [aF,aF,HSJ.out,HKJ.out];omega) (by rw [aF,HSJ.out];exact oV) (av _ _) ?_
   intro w11 hb11 hk11 hz11
   have HB11:=Lib.hid (qd.out.cK hk11 (fun i hi e=>e))
   have hb':=hb11
   rw [HKSJ.out] at hb'
   have HFIN:=Lib.hid hb'
   have II:=HB11
   clear hb11 hk11 hz11 hb'
   refine hK.out _ _ (HB11.out) (fun hHeld=>?_)
   clear hK K
   (try simp only [Act.put])
   refine wpAnyH_done (by kernel_rfl) ?_ _
   (try simp only [Exit.then])
   go_wp2_with fail
   go_roundw
   case rel=>exact ⟨j+1,by omega,by go_num,HFIN.out,oD.out.trans II.out⟩
   case measure=>simp [intOf];omega
  ·obtain rfl:j=4:=by omega
   clear hr0 hr1 hb hB
   have hbb:=Dk.out
   rw [HK4.out] at hbb
   have HR4:=Lib.hid hbb
   clear hbb Dk
   go_wp2_with (first|((with_reducible refine aS 22 ?_);refine ak rfl 23 _ rfl (w.heap.size+1+1) 0 _ 68 (0,0) _ HR4.out rfl .u8 (SC 0) HPT.out.1 Tryd.underlying23 rfl (by rw [HSL.out];exact oV) ?_)|((with_reducible refine aS 24 ?_);refine ak rfl 23 _ rfl (w.heap.size+1+1) 32 _ 68 (0,0) _ HR4.out rfl .u8 (SC 1) HPT.out.2.1 Tryd.underlying23 rfl (by rw [HSL.out];exact oV) ?_)|((with_reducible refine aS 26 ?_);refine ak rfl 23 _ rfl (w.heap.size+1+1) 64 _ 68 (0,0) _ HR4.out rfl .u8 (SC 2) HPT.out.2.2.1 Tryd.underlying23 rfl (by rw [HSL.out];exact oV) ?_)|((with_reducible refine aS 28 ?_);refine ak rfl 23 _ rfl (w.heap.size+1+1) 96 _ 68 (0,0) _ HR4.out rfl .u8 (SC 3) HPT.out.2.2.2 Tryd.underlying23 rfl (by rw [HSL.out];exact oV) ?_)|((with_reducible refine aS 29 ?_);refine wpList_build rfl 47 _ rfl #[(0, .agg (arr .u8 (SC 0))),(1, .agg (arr .u8 (SC 1))),(2, .agg (arr .u8 (SC 2))),(3, .agg (arr .u8 (SC 3)))] rfl _ (HBD.out _) ?_)|((with_reducible show wpList _ _ _ (Oper.mk none _ _ _ _ _ :: _) _ _);refine ah rfl 47 _ _ rfl w.heap.size _ _ 47 HR0'.out rfl rfl (by rw [wS.out,aF,uD.out]) (by rw [wS.out];exact Cz) HSA.out ?_;intro w9 dG nK J9;have EX:=Lib.hid dG;have qd:=Lib.hid ((HB2.out.trans (oD.out.toBelow HB2.out.size (by rintro i rfl;omega))).trans (nK.toBelow (Nat.le_trans HB2.out.size oD.out.size) (by rintro i rfl;exact Nat.le_refl _)));clear dG nK J9))
   (try simp only [Exit.inBlock,Exit.then])
   refine bodyPost_ret (results_cell_row rfl _ _ w.heap.size 47 _ (0,0) _ rfl EX.out Tryd.underlying47 rfl (by rw [wS.out];exact Cz)) rfl ?_
   exact ⟨rfl,qd.out⟩
end Go.Proofs.YthdgbgleklkaiaaDoor.Ms
namespace Go.Proofs.YthdgbgleklkaiaaDoor.Ms
open Go.RowKit Lm Fp Cu Sl
def Gw (x:List Int):List Int:=Ha.hash (0 :: x)
theorem QC (x:List Int):(Gw x).length=32:=Ha.dZ _
theorem Gp (w:World) (x:Int) (hx:True):aV (w.alloc (.cells #[.int .u8 x] 5)) w.heap.size (.slice (some ⟨w.heap.size,0,none⟩) 1 1) [x] :=
 ⟨by simp, .inr ⟨w.heap.size,1, #[.int .u8 x],rfl,Nat.le_refl _,aL w _,by simp,by simp [maxLen],rfl,rfl⟩⟩
theorem QA (sa:Option Addr) (c:Nat) (x:List Int) (w:World) (hs:qD w sa 1 [x]) (bx:bytes x) (hl:x.length≤1000000) (hT:Ha.eB w) :
  Calls Tryd.prog 38 #[.slice sa 1 c] w fun e w'=>e = .returned (.agg (arr .u8 (Gw x)))∧Below w.heap.size w w':=by
 obtain ⟨zn,hzn⟩:∃ zs:List Int,zs=List.replicate 32 0:=⟨_,rfl⟩
 have HZ:Hid (∀ w,(zeroValue 23).run Tryd.prog w = .ok (.agg (arr .u8 zn)) w):=Lib.hid (by intro w;rw [hzn];exact zero_num w)
 have HLz:Hid (zn.length=32):=Lib.hid (by rw [hzn];rfl)
 have hbx:bytes (0 :: x):=fun y hy=>by
  rcases List.mem_cons.1 hy with rfl|h
  ·decide
  ·exact bx y h
 have M2:=fun sa c u (hs:Src u sa (1+x.length) (0 :: x)) ht=>Ha.kE sa (1+x.length) c (0 :: x) u hs hbx (by omega) ht
 have hke:Ha.hash (0 :: x)=Gw x:=rfl
 rw [hke] at M2
 have hkl:=QC x
 generalize Gw x=K at M2 hkl ⊢
 obtain ⟨a,s1,c1,rfl,hc, -, hs1⟩:=hs.2 0 (by omega)
 have e0:a.add 0=a:=by cases a with|mk b o i=>cases i <;> rfl
 rw [e0] at hc
 simp only [List.getD_cons_zero] at hc hs1
 have hb1:=(Below.refl _ w).alloc (Nat.le_refl _) (.cells (arr .u8 zn) 23)
 have hb2:=hb1.alloc (by simp) (.cells #[.int .u8 0] 5)
 have Dk:Hid ((w.alloc (.cells (arr .u8 zn) 23)).heap[w.heap.size]? = some (.cells (arr .u8 zn) 23 (0,0))):=Lib.hid (aL w _)
 have HB:=Lib.hid hb1
 have sH:((w.alloc (.cells (arr .u8 zn) 23)).alloc (.cells #[.int .u8 0] 5)).cell? a=some (.slice s1 x.length c1):=by
  exact (Kept.of_below hb2 (T:=fun _=>False)).lM hc id
 have HS:=Lib.hid (hs1.below hb2)
 have Z5:=Lib.hid (fun (u:World) (k:Below w.heap.size w u)=>Ha.eB.kept hT (Kept.of_below (T:=fun _=>False) k) (fun h=>h))
 have PD:=Lib.hid M2
 have l9:=Lib.hid hkl
 have iG:=Lib.hid hl
 clear M2 hkl hke hb1 hb2 hs hs1 hc e0 hT hbx hzn bx hl
 go_enter Tryd.func38, Tryd.ntmps38
 go_upto_region 1 with ((with_reducible refine aS 2 ?_);refine aj rfl 23 rfl _ (HZ.out _) ?_)
 (try simp only [World.size_alloc,Act.put,sA,sZ,sS])
 generalize w.alloc (.cells (arr .u8 zn) 23)=wb at Dk HB sH HS ⊢
 go_wp2_with (first|((with_reducible refine aS 17 ?_);refine aO rfl (.tmp 13) (.tmp 16) rfl wb.heap.size (.slice (some ⟨wb.heap.size,0,none⟩) 1 1) [0] rfl (Gp wb 0 trivial) s1 x.length c1 x rfl HS.out (by have:=iG.out;simp;omega) (by simp) ?_;intro v3 w3 how hgr _ _;have HB3:=Lib.hid (aQ (Gp wb 0 trivial) hgr ((Below.refl _ wb).alloc (Nat.le_refl _) _) (by simp));obtain ⟨s3,c3,hv3, -, -, hs3, -⟩:=how.form;rw [List.length_append,List.length_singleton] at hv3 hs3;subst hv3;have F3:Hid (Src w3 s3 (1+x.length) (0 :: x)):=Lib.hid hs3;clear hs3 how hgr)|((with_reducible show Calls _ 14 _ _ _);go_at_call 14; refine (PD.out _ _ _ F3.out (Z5.out _ (HB.out.trans (HB3.out.mono HB.out.size)))).mono ?_;rintro e w4 ⟨rfl,hb4⟩;have qE:=Lib.hid (HB.out.trans ((HB3.out.trans (hb4.mono HB3.out.size)).mono HB.out.size));have HR4:=Lib.hid (Below.blk (HB3.out.trans (hb4.mono HB3.out.size)) Dk.out (aR Dk.out));clear hb4)|((with_reducible refine aT 2 ?_);refine ah rfl 23 _ _ rfl (w.heap.size) _ _ 23 HR4.out rfl rfl (ay _ _ l9.out HLz.out) (Sl.bE l9.out) (av _ _) ?_;intro w5 hb hk hz;have gu:=Lib.hid hb;have HK5:=Lib.hid hk;clear hb hk hz))
 (try simp only [Exit.then])
 all_goals refine bodyPost_ret (results_cell_row rfl _ _ (w.heap.size) 23 _ (0,0) _ rfl gu.out Tryd.underlying23 rfl (Sl.bE l9.out)) rfl ?_
 exact ⟨rfl,qE.out.trans ⟨HK5.out.os,HK5.out.tape,HK5.out.output,HK5.out.size,fun i hi=>HK5.out.block i (Nat.lt_of_lt_of_le hi qE.out.size) (fun e=>by have e:i=w.heap.size:=e;omega)⟩⟩
end Go.Proofs.YthdgbgleklkaiaaDoor.Ms
namespace Go.Proofs.YthdgbgleklkaiaaDoor.Po
open Go.RowKit Lm
theorem zero32' (w:World):(zeroValue 23).run Tryd.prog w = .ok (.agg (arr .u8 (List.replicate 32 0))) w:=by kernel_rfl
end Go.Proofs.YthdgbgleklkaiaaDoor.Po
namespace Go.Proofs.YthdgbgleklkaiaaDoor.Po
open Go.RowKit Lm
theorem NU (w:World):(zeroValue 122).run Tryd.prog w = .ok (.agg (arr .u8 (List.replicate 16 0))) w:=by kernel_rfl
theorem xK (r:Nat) (m:List Nat) (q:Nat):acc r m q < 2 ^ 130 - 5:=by
 cases q with
 | zero=>show 0 < 2 ^ 130 - 5;decide
 | succ q=>exact Nat.mod_lt _ (by decide)
end Go.Proofs.YthdgbgleklkaiaaDoor.Po
namespace Go.Proofs.YthdgbgleklkaiaaDoor.Ae
open Go.RowKit Lm Po Ch
def zr (n:Nat):Nat:=(16 - n % 16) % 16
def Em (n:Nat):List Int:=aW (bD 256 8 n)
def msg (beside c:List Int):List Int:=beside ++ (List.replicate (zr beside.length) 0 ++ (c ++ (List.replicate (zr c.length) 0 ++ (Em beside.length ++ Em c.length))))
def toN (xs:List Int):List Nat:=xs.map Int.toNat
def tag (key aK c beside:List Int):List Int:=aW (Jv (toN ((block key 0 aK).take 32)) (toN (msg beside c)))
def lH (key aK plain beside:List Int):List Int:=turn key 1 aK plain ++ tag key aK (turn key 1 aK plain) beside
theorem toN_nar {xs:List Int} (h:bytes xs):aW (toN xs)=xs:=JU xs (fun x hx=>(h x hx).1)
theorem toN_lt {xs:List Int} (h:bytes xs):∀ x∈toN xs,x < 256:=by
 intro x hx
 obtain ⟨y,hy,rfl⟩:=List.mem_map.1 hx
 have:=h y hy
 omega
theorem toN_len (xs:List Int):(toN xs).length=xs.length:=by simp [toN]
theorem xK (key aK c beside:List Int):(tag key aK c beside).length=16:=by rw [tag,aH,Jv,aI]
theorem Da {xs:List Nat} (h:∀ x∈xs,x < 256):bytes (aW xs):=by
 intro x hx
 obtain ⟨y,hy,rfl⟩:=List.mem_map.1 hx
 have:=h y hy
 show 0≤(y:Int)∧(y:Int)≤255
 omega
theorem R4 (key aK c beside:List Int):bytes (tag key aK c beside):=Da (gV 256 (by decide) _ _)
theorem Db (n:Nat):bytes (Em n):=Da (gV 256 (by decide) _ _)
theorem nI (n:Nat):(Em n).length=8:=by rw [Em,aH,aI]
theorem pQ (n:Nat):bytes (List.replicate n 0):=by
 intro x hx
 rw [List.mem_replicate] at hx
 omega
theorem bytes_append {xs ys:List Int} (h:bytes xs) (k:bytes ys):bytes (xs ++ ys):=by
 intro x hx
 rcases List.mem_append.1 hx with hx|hx
 ·exact h x hx
 ·exact k x hx
theorem nN {xs:List Int} (h:bytes xs) (n:Nat):bytes (xs.take n):=fun x hx=>h x (List.mem_of_mem_take hx)
theorem Ik (key:List Int) (c:Int) (aK:List Int):bytes (block key c aK):=by
 intro x hx
 obtain ⟨i,_,rfl⟩:=List.mem_map.1 hx
 omega
theorem R6 {beside c:List Int} (h:bytes beside) (k:bytes c):bytes (msg beside c) :=
 bytes_append h (bytes_append (pQ _) (bytes_append k (bytes_append (pQ _) (bytes_append (Db _) (Db _)))))
theorem msg_len (beside c:List Int):(msg beside c).length≤beside.length+c.length+46:=by
 simp only [msg,List.length_append,List.length_replicate,nI]
 have h1:zr beside.length < 16:=Nat.mod_lt _ (by decide)
 have h2:zr c.length < 16:=Nat.mod_lt _ (by decide)
 omega
theorem yh (x y:Int):0≤bits .xor .u8 x y∧bits .xor .u8 x y≤255:=by
 unfold bits
 simp only
 show 0≤IntKind.u8.wrap _∧IntKind.u8.wrap _≤255
 rw [IntKind.wrap_u8]
 omega
theorem Ab (key:List Int) (c:Int) (aK b:List Int):bytes (turn key c aK b):=by
 intro x hx
 obtain ⟨i,h,rfl⟩:=List.mem_mapIdx.1 hx
 exact yh _ _
theorem Gt (key aK plain beside:List Int):(lH key aK plain beside).length=plain.length+16:=by rw [lH,List.length_append,yx,xK]
theorem rA (key aK plain beside:List Int):bytes (lH key aK plain beside):=bytes_append (Ab _ _ _ _) (R4 _ _ _ _)
end Go.Proofs.YthdgbgleklkaiaaDoor.Ae
namespace Go.Proofs.YthdgbgleklkaiaaDoor.Ed
open Go.RowKit Lm Fp Cu Pri Sc
theorem Zo (k:Nat):clamp k < 2 ^ 256:=by
 have:=Nat.mod_lt (k / 8 * 8) (show 2 ^ 254 > 0 by decide)
 unfold clamp
 omega
theorem base_is (k:Nat) (hk:k < 2 ^ 256):Is (jU base k 256) (tm B0 k):=Is.base.GD kH k hk
theorem on_b (k:Nat):on (tm B0 k):=iN mK dJ kH k
theorem read_b (k:Nat) (hk:k < 2 ^ 256):∃ Q,iQ (lu (jU base k 256))=some Q∧Is Q (tm B0 k):=by
 rw [(base_is k hk).bytes]
 exact QH (on_b k)
theorem may_pub (seed:Nat):(iQ (xC seed)).isSome=true:=by
 obtain ⟨Q,h,_⟩:=read_b (jJ seed) (Zo _)
 unfold xC
 rw [h]
 rfl
end Go.Proofs.YthdgbgleklkaiaaDoor.Ed
namespace Go.Proofs.YthdgbgleklkaiaaDoor
open Go.RowKit
theorem bM.also {w u:World} {l:List (Nat×Array Value×TypeId)} (h:bM w u l) {g:Nat} {c:Array Value} {t:TypeId} (hg:u.heap[g]? = some (.cells c t (0,0))) (hl:w.heap.size≤g) (hne:∀ (i:Nat) (e:Nat×Array Value×TypeId),l[i]? = some e→e.1≠g):bM w u (l ++ [(g,c,t)]):=by
 refine ⟨fun i g' c' t' hi=>?_,fun i j g' c' t' c2 t2 hi hj=>?_,h.below⟩
 ·rw [List.getElem?_append] at hi
  split at hi
  ·exact h.mem i g' c' t' hi
  ·have:=List.mem_of_getElem? hi
   simp only [List.mem_singleton,Prod.mk.injEq] at this
   obtain ⟨rfl,rfl,rfl⟩:=this
   exact ⟨hg,hl⟩
 ·rw [List.getElem?_append] at hi hj
  split at hi <;> split at hj
  ·exact h.inj i j g' c' t' c2 t2 hi hj
  ·have:=List.mem_of_getElem? hj
   simp only [List.mem_singleton,Prod.mk.injEq] at this
   exact absurd this.1 (hne _ _ hi)
  ·have:=List.mem_of_getElem? hi
   simp only [List.mem_singleton,Prod.mk.injEq] at this
   exact absurd this.1 (hne _ _ hj)
  ·have h1:=(List.getElem?_eq_some_iff.1 hi).1
   have h2:=(List.getElem?_eq_some_iff.1 hj).1
   simp at h1 h2
   omega
theorem bM.own {w u u':World} {l:List (Nat×Array Value×TypeId)} {v:Value} {xs:List Int} (h:bM w u l) (ho:aV u' u.heap.size v xs) (hb:Below u.heap.size u u') (hp:0 < xs.length) :
  ∃ (g cap:Nat) (cur:Array Value),v = .slice (some ⟨g,0,none⟩) xs.length cap∧xs.length≤cap∧bM w u' (l ++ [(g,cur, 5)])∧(∀ z:World,z.heap[g]? = some (.cells cur 5 (0,0))→Src z (some ⟨g,0,none⟩) xs.length xs):=by
 obtain ⟨-, h2⟩:=ho
 rcases h2 with ⟨rfl,h0⟩|⟨g,cap,cur,rfl,hB,hg,hn,hm,hs,ht⟩
 ·omega
 ·refine ⟨g,cap,cur,rfl,hn,(h.kept hb).also hg (Nat.le_trans h.below.size hB) (fun i e hi=>?_),fun z hz=>nu hz ht rfl⟩
  have:=h.lt i (g:=e.1) (c:=e.2.1) (t:=e.2.2) hi
  omega
end Go.Proofs.YthdgbgleklkaiaaDoor
