/- What a signature is, in plain words. What the walks of lists and arrays share. portcullislaw13.alive: Numbers of 32 bytes, read and written. The document's SetOf, where package iss. Condition: as each theorem says. -/
import Derived.Deep.DeepCutAuto
import Derived.Deep.MidRow
import Derived.Deep.RegionHeld3
import Derived.Laws.CopyOwn
import Derived.Laws.Cover3
import Derived.Lib.SlBytesConst
import Derived.Shelf.Bits.Mul64
import Derived.Shelf.Spec.BitsCarry
import Derived.StillTailTactics
import Derived.Test.YthdgbgleklkaiaaDoorQb01
import Derived.Test.YthdgbgleklkaiaaDoorQb02
import Derived.Test.YthdgbgleklkaiaaDoorQb03
import Derived.Test.YthdgbgleklkaiaaDoorQb04
import Derived.Test.YthdgbgleklkaiaaDoorQb05
import Derived.Test.YthdgbgleklkaiaaDoorQb09
import Derived.Test.YthdgbgleklkaiaaDoorQb11
import Derived.Test.YthdgbgleklkaiaaDoorQb15
import Derived.Test.YthdgbgleklkaiaaDoorQb16
open Go.Lib renaming hid→acD
open List renaming replicate→acE,length_append→acG,range→acI,map_append→acJ,mem_of_getElem?→acK,mem_singleton→acL,take_of_length_le→acM,getElem?_append_left→acO,getElem?_append_right→acP,drop_append→acQ,drop_eq_nil_of_le→acR,range_succ→acS,flatten_append→acT,getElem?_append→acU
open Nat renaming le_refl→acF,le_trans→acH
set_option linter.unusedSimpArgs false
set_option linter.unusedVariables false
set_option maxRecDepth 100000
set_option maxHeartbeats 16000000
namespace Go.Proofs.YthdgbgleklkaiaaDoor.Cu
open Go.RowKit Lm Fp Sc
def wide (xs:List Int):Nat:=fD (Hb.hash xs) % q
def jR (seed:Nat):Nat:=clamp (fD ((Hb.hash (n32 seed)).take 32))
def jQ (seed:Nat):List Int:=(Hb.hash (n32 seed)).drop 32
def xY (seed:Nat):Nat:=lK (ku base (jR seed) 256)
def vN (seed:Nat) (b:List Int):Nat:=lK (ku base (wide (jQ seed ++ b)) 256)
def MO (seed:Nat) (b:List Int):Nat:=(wide (jQ seed ++ b)+wide (n32 (vN seed b) ++ (n32 (xY seed) ++ b)) * jR seed % q) % q
def kJ (seed:Nat) (b:List Int):List Int:=n32 (vN seed b) ++ n32 (MO seed b)
theorem qc (m:List Int):bytes (Hb.hash m):=by
 intro x hx
 simp only [Hb.hash,Hb.digest,List.mem_map,List.mem_range] at hx
 obtain ⟨i,_,rfl⟩:=hx
 omega
end Go.Proofs.YthdgbgleklkaiaaDoor.Cu
namespace Go.Proofs.YthdgbgleklkaiaaDoor.Sl
open Go.RowKit Lm Fp Cu Sc
theorem tT (w:World):(zeroValue 26).run Tryd.prog w = .ok (.agg (arr .u8 (acE 64 0))) w:=by kernel_rfl
theorem Hw:(Tryd.prog.info? 26).map (·.size)=some 64:=by kernel_rfl
theorem lD {xs:List Int} (h:xs.length=64):(Tryd.prog.info? 26).map (·.size)=some (arr .u8 xs).size:=by rw [aD,h];exact Hw
theorem sig_i {xs:List Int} (h:xs.length=64):(Tryd.prog.info? 26).map (·.size)=some xs.length:=by rw [h];exact Hw
theorem EH {w:World} {g:Nat} {xs:List Int} {t:TypeId} {fr:Nat×Nat} (h:w.heap[g]? = some (.cells (arr .u8 xs) t fr)) (o m:Nat) (hm:o+m≤xs.length):Src w (some ⟨g,o,none⟩) m ((xs.drop o).take m):=by
 refine ⟨by rw [List.length_take,List.length_drop];omega,fun i hi=>⟨_,rfl,?_⟩⟩
 rw [Addr.add_lit,dh h (o+i) (by omega)]
 have e:((xs.drop o).take m).getD i 0=xs.getD (o+i) 0:=by simp [List.getD,List.getElem?_take,hi,List.getElem?_drop]
 rw [e]
theorem bO {w:World} {g:Nat} {xs:List Int} {t:TypeId} {fr:Nat×Nat} (h:w.heap[g]? = some (.cells (arr .u8 xs) t fr)) (m:Nat) (hm:xs.length=m):Src w (some ⟨g,0,none⟩) m xs:=by
 have:=EH h 0 m (by omega)
 rwa [List.drop_zero,acM (by omega)] at this
theorem Tx {w:World} {si:Option Addr} {n ci:Nat} {l:List Int} (h:Src w si n l) (hc:n≤ci) :
  oq (w.alloc (.cells #[.slice si n ci] 24)) (some ⟨w.heap.size,0,none⟩) 1 [l]:=by
 have hl:=h.len
 subst hl
 refine ⟨rfl,fun i hi=>?_⟩
 obtain rfl:i=0:=by omega
 refine ⟨_,si,ci,rfl,?_,hc,h.below ((Below.refl _ w).alloc (acF _) _)⟩
 rw [show (⟨w.heap.size,0,none⟩:Addr).add 0=⟨w.heap.size,0,none⟩ from rfl,aF (aG w _)]
 rfl
theorem TV {w w':World} {o:Obj} (h:Below (w.alloc o).heap.size (w.alloc o) w'):Below w.heap.size w w':=by
 have b1:Below w.heap.size w (w.alloc o):=(Below.refl _ w).alloc (acF _) o
 exact b1.trans (h.mono b1.size)
theorem bM.add {w wr w':World} {l:List (Nat×Array Value×TypeId)} (h:bM w wr l) (b:Below wr.heap.size wr w') {g:Nat} {c:Array Value} {t:TypeId} (hg:w'.heap[g]? = some (.cells c t (0,0))) (hle:wr.heap.size≤g):bM w w' (l ++ [(g,c,t)]):=by
 have h1:=h.kept b
 have hlt:∀ (i g':Nat) (c':Array Value) (t':TypeId),l[i]? = some (g',c',t')→g' < wr.heap.size:=fun i g' c' t' hi=>h.lt i hi
 refine ⟨fun i g' c' t' hi=>?_,fun i j g' c1 t1 c2 t2 hi hj=>?_,h1.below⟩
 ·rcases Nat.lt_or_ge i l.length with hl|hl
  ·rw [acO hl] at hi
   exact h1.mem i g' c' t' hi
  ·rw [acP hl] at hi
   obtain ⟨hh0,e⟩:=List.getElem?_eq_some_iff.1 hi
   have e2:(g,c,t)=(g',c',t'):=by rw [← e];simp
   cases e2
   exact ⟨hg,acH h.below.size hle⟩
 ·have key:∀ (i g':Nat) (c':Array Value) (t':TypeId),(l ++ [(g,c,t)])[i]? = some (g',c',t')→(i < l.length∧l[i]? = some (g',c',t'))∨(i=l.length∧g'=g):=by
   intro i g' c' t' hi
   rcases Nat.lt_or_ge i l.length with hl|hl
   ·rw [acO hl] at hi
    exact .inl ⟨hl,hi⟩
   ·rw [acP hl] at hi
    obtain ⟨hh,e⟩:=List.getElem?_eq_some_iff.1 hi
    have e2:(g,c,t)=(g',c',t'):=by rw [← e];simp
    cases e2
    simp at hh
    exact .inr ⟨by omega,rfl⟩
  rcases key i g' c1 t1 hi with ⟨a1,a2⟩|⟨a1,a2⟩ <;> rcases key j g' c2 t2 hj with ⟨b1,b2⟩|⟨b1,b2⟩
  ·exact h.inj i j _ _ _ _ _ a2 b2
  ·have:=hlt i g' c1 t1 a2;omega
  ·have:=hlt j g' c2 t2 b2;omega
  ·omega
theorem src_two {w:World} {g:Nat} {t:TypeId} {fr:Nat×Nat} {s1 s2:Option Addr} {n1 n2 c1 c2:Nat} {x1 x2:List Int} (h:w.heap[g]? = some (.cells #[.slice s1 n1 c1, .slice s2 n2 c2] t fr)) (h1:Src w s1 n1 x1) (h2:Src w s2 n2 x2) (l1:n1≤c1) (l2:n2≤c2) :
  oq w (some ⟨g,0,none⟩) 2 [x1,x2]:=by
 have e1:=h1.len
 have e2:=h2.len
 subst e1 e2
 refine ⟨rfl,fun i hi=>?_⟩
 match i,hi with
 | 0,_=>exact ⟨_,s1,c1,rfl,by rw [show (⟨g,0,none⟩:Addr).add 0=⟨g,0,none⟩ from rfl,aF h];rfl,l1,h1⟩
 | 1,_=>exact ⟨_,s2,c2,rfl,by rw [show (⟨g,0,none⟩:Addr).add 1=⟨g,1,none⟩ from rfl,aF h];rfl,l2,h2⟩
end Go.Proofs.YthdgbgleklkaiaaDoor.Sl
namespace Go.Proofs.YthdgbgleklkaiaaDoor.Sl
open Go.RowKit Lm Fp Cu Rd Sc
theorem gV (s:Nat) (b:List Int):(kJ s b).length=64:=by rw [kJ,acG,bX,bX]
theorem qo (s:Nat) (b:List Int):bytes (kJ s b):=gX (eY _) (eY _)
theorem epub_lt (s:Nat):xY s < 256 ^ 32:=Tv _
end Go.Proofs.YthdgbgleklkaiaaDoor.Sl
namespace Go.Proofs.YthdgbgleklkaiaaDoor.Rd
open Go.RowKit Lm Fp Cu
theorem uK {P:Program} {o:Oper} {ev:Operand→Value} {w:World} (t ty:TypeId) (e:TypeId) (x y:Operand) (ho:o.op = .binOp .neq t x y ty) (n:Nat) (k k':IntKind)
  (ht:P.underlying t=some (.array n e)) (he:P.underlying e=some (.int k')) (hsz:∀ w,(sizeOf e).run P w = .ok 1 w) (hm:P.eqGuardType P.depth t=false)
  (xs ys:List Int) (hx:ev x = .agg (arr k xs)) (hy:ev y = .agg (arr k ys)) (lx:xs.length=n) (ly:ys.length=n) (b:Bool) (hb:(!(xs == ys))=b) :
  (execOp ev o).run P w = .ok (.value (.bool b)) w:=by
 simp only [execOp,ho,hx,hy,Sem.run_bind,run_eqGuard_agg w .neq t x y _ _ hm,Result.andThen_ok,Hz w t e n k k' ht he hsz xs ys lx ly,hb]
 rfl
theorem KE:p < 256 ^ 32:=by decide +kernel
theorem zh (v:Nat) (h:v < 256 ^ 32):val 256 (bD 256 32 v)=v:=by rw [fA,Nat.mod_eq_of_lt h]
theorem KY (v:Nat) (w:World) (h:v < 256 ^ 32):Calls Tryd.prog 76 #[.agg (arr .u8 (aW (bD 256 32 v)))] w fun e w'=>∃ zs,e = .returned (.agg (arr .i64 zs))∧El zs (v % p)∧Below w.heap.size w w':=by
 have:=in_any (bD 256 32 v) w (aK _ _ _) (ig 256 (by decide) _ _)
 rwa [zh v h] at this
theorem TN (v:Nat) (w:World) (h:v < 256 ^ 32):Calls Tryd.prog 81 #[.agg (arr .u8 (aW (bD 256 32 v)))] w fun e w'=>e = .returned (.agg (arr .u8 (aW (bD 256 32 (v % p)))))∧Below w.heap.size w w':=by
 have hi:=fun w=>KY v w h
 obtain ⟨ns,hns⟩:∃ x,x=aW (bD 256 32 v):=⟨_,rfl⟩
 have yt:Hid (ns.length=32):=acD (by rw [hns,aJ,aK])
 rw [← hns] at hi ⊢
 have ho:=fun xs w (h:El xs (v % p))=>nR xs (v % p) w h
 obtain ⟨os,hos⟩:∃ x,x=aW (bD 256 32 (v % p)):=⟨_,rfl⟩
 have HOL:Hid (os.length=32):=acD (by rw [hos,aJ,aK])
 have HOS:=acD hos
 rw [← hos] at ho
 have HI:=acD hi
 have HO:=acD ho
 obtain ⟨zn,hzn⟩:∃ zs:List Int,zs=acE 32 0:=⟨_,rfl⟩
 have dA:Hid (∀ w,(zeroValue 23).run Tryd.prog w = .ok (.agg (arr .u8 zn)) w):=acD (by intro w;rw [hzn];exact zero_num w)
 have cK:Hid (zn.length=32):=acD (by rw [hzn];rfl)
 have bQ:=acD (bM.two w (arr .u8 ns) (arr .u8 zn) 23 23)
 clear hzn hi ho hns hos
 go_enter Tryd.func81, Tryd.ntmps81
 go_wp2_with (first|((with_reducible refine aS 2 ?_);refine aj rfl 23 rfl _ (dA.out _) ?_)|((with_reducible refine aS 3 ?_);refine lL rfl rfl (bQ.out.get 0 rfl) rfl (au _ _) Tryd.underlying23 rfl (bU yt.out) ?_)|((with_reducible show Calls _ 76 _ _ _);go_at_call 76; refine (HI.out _).mono ?_;rintro e w1 ⟨z1,rfl,h1,hb1⟩;have HZ1:=acD h1;have HB1:=acD (bQ.out.kept hb1);clear h1 hb1)|((with_reducible show Calls _ 67 _ _ _);go_at_call 67; refine lC (HO.out _ _ HZ1.out) HB1 ?_;intro w2 HB2)|((with_reducible refine aT 2 ?_);refine lS rfl rfl HB2 1 rfl rfl rfl (ay _ _ HOL.out cK.out) (bE HOL.out) (av _ _) ?_;intro w3 HB3))
 (try simp only [Exit.then])
 refine bodyPost_ret (results_cell_row rfl _ _ (w.heap.size+1) 23 _ (0,0) _ rfl (HB3.out.get 1 rfl) Tryd.underlying23 rfl (bE HOL.out)) rfl ?_
 exact ⟨by rw [HOS.out],HB3.out.below⟩
end Go.Proofs.YthdgbgleklkaiaaDoor.Rd
namespace Go.Proofs.YthdgbgleklkaiaaDoor.Ms
open Go.RowKit
def lF (a b c d:List Int):Array Value:=arr .u8 (a ++ b ++ c ++ d)
theorem Dn {a b c d:List Int} (ha:a.length=32) (hb:b.length=32) (hc:c.length=32) (hd:d.length=32):(lF a b c d).size=128:=by simp [lF,aD,ha,hb,hc,hd]
theorem pV:(Tryd.prog.info? 23).map (·.size)=some 32:=by kernel_rfl
def secret (seed:Int) (s:ByteArray):List Int:=Ha.hash (iV seed ++ gY s)
theorem Kk (seed:Int) (s:ByteArray):(secret seed s).length=32:=Ha.dS _
def PX (i:Nat):ByteArray:=([⟨#[114,111,111,116]⟩,⟨#[115,105,103,110,101,114]⟩,⟨#[100,101,118,105,99,101]⟩,⟨#[107,101,121]⟩]:List ByteArray).getD i ⟨#[]⟩
theorem Wv (i:Nat):(PX i).size≤1000:=by
 unfold PX
 match i with
 | 0=>decide
 | 1=>decide
 | 2=>decide
 | 3=>decide
 | (n+4)=>exact (show (0:Nat)≤1000 by decide)
def sec (seed:Int) (i:Nat):List Int:=secret seed (PX i)
theorem eO (seed:Int) (i:Nat):(sec seed i).length=32:=Kk _ _
theorem vD {a b c d:List Int} (ha:a.length=32) (hb:b.length=32) (hc:c.length=32) (hd:d.length=32) :
  ((lF a b c d).toList.drop 0).take a.length=a.map (Value.int .u8)∧((lF a b c d).toList.drop 32).take b.length=b.map (Value.int .u8)∧((lF a b c d).toList.drop 64).take c.length=c.map (Value.int .u8)∧((lF a b c d).toList.drop 96).take d.length=d.map (Value.int .u8):=by
 have e:(lF a b c d).toList=a.map (Value.int .u8) ++ (b.map (Value.int .u8) ++ (c.map (Value.int .u8) ++ d.map (Value.int .u8))):=by simp [lF,arr]
 have hA:(a.map (Value.int .u8)).length=32:=by simp [ha]
 have hB:(b.map (Value.int .u8)).length=32:=by simp [hb]
 have hC:(c.map (Value.int .u8)).length=32:=by simp [hc]
 have hD:(d.map (Value.int .u8)).length=32:=by simp [hd]
 rw [e,ha,hb,hc,hd]
 generalize a.map (Value.int .u8)=A at hA ⊢
 generalize b.map (Value.int .u8)=B at hB ⊢
 generalize c.map (Value.int .u8)=C at hC ⊢
 generalize d.map (Value.int .u8)=D at hD ⊢
 refine ⟨?_,?_,?_,?_⟩ <;> simp [acQ,hA,hB,hC,hD,acM,acR]
theorem _root_.Go.Proofs.YthdgbgleklkaiaaDoor.Kept.Rt {T:Nat→Prop} {a b c:World} (h:Kept T a b) (k:Below a.heap.size b c):Kept T a c :=
 ⟨k.os.trans h.os,k.tape.trans h.tape,k.output.trans h.output,acH h.size k.size,fun i hi ht=>(k.block i hi).trans (h.block i hi ht)⟩
theorem _root_.Go.Proofs.YthdgbgleklkaiaaDoor.Ha.eP.kept {T:Nat→Prop} {w w':World} (h:Ha.eP w) (k:Kept T w w') (ht:¬ T 0):Ha.eP w':=fun t h64=>k.l9 (h t h64) ht
theorem TQ (seed:Int) (s:ByteArray):bytes (iV seed ++ gY s):=fun x hx=>by
 rcases List.mem_append.1 hx with h|h
 ·exact lq seed x h
 ·exact FN s x h
def kl (seed:Int) (j:Nat):List Int:=((acI j).map (sec seed)).flatten ++ acE (32 * (4 - j)) 0
theorem Qa (seed:Int) (j:Nat):(((acI j).map (sec seed)).flatten).length=32 * j:=by
 induction j with
 | zero=>rfl
 | succ j ih=>rw [acS,acJ,acT,acG,ih];simp [eO];omega
theorem kl_len (seed:Int) (j:Nat) (hj:j≤4):(kl seed j).length=128:=by rw [kl,acG,Qa,List.length_replicate];omega
theorem kl_succ (seed:Int) (j:Nat) (hj:j < 4):((arr .u8 (kl seed j)).toList.take (32 * j) ++ (arr .u8 (sec seed j)).toList ++ (arr .u8 (kl seed j)).toList.drop (32 * j+(arr .u8 (sec seed j)).size)).toArray=arr .u8 (kl seed (j+1)):=by
 have h:=Qa seed j
 rw [bN,bN,aD,eO,kl,acJ]
 have hX:(((acI j).map (sec seed)).flatten.map (Value.int .u8)).length=32 * j:=by rw [List.length_map,h]
 rw [List.take_left' hX,acQ,acR (by rw [hX];omega),hX,List.nil_append,show 32 * j+32 - 32 * j=32 by omega,← List.map_drop,List.drop_replicate]
 simp only [arr,kl,acS,acJ,acT,List.map_cons,List.map_nil,List.flatten_cons,List.flatten_nil,List.append_nil]
 rw [show 32 * (4 - j) - 32=32 * (4 - (j+1)) by omega]
theorem kl_four (seed:Int):arr .u8 (kl seed 4)=lF (sec seed 0) (sec seed 1) (sec seed 2) (sec seed 3):=by
 rw [lF,kl]
 congr 1
theorem zeroK (w:World):(zeroValue 68).run Tryd.prog w = .ok (.agg (arr .u8 (acE 128 0))) w:=by kernel_rfl
theorem GX (w:World):(zeroValue 47).run Tryd.prog w = .ok (.agg (arr .u8 (acE 128 0))) w:=by kernel_rfl
theorem Nb (a b c d:List Int) (ha:a.length=32) (hb:b.length=32) (hc:c.length=32) (hd:d.length=32) (w:World) :
  (Instr.build 47 #[(0, .agg (arr .u8 a)),(1, .agg (arr .u8 b)),(2, .agg (arr .u8 c)),(3, .agg (arr .u8 d))]).run Tryd.prog w = .ok (.agg (lF a b c d)) w:=by
 unfold Instr.build
 simp only [Sem.run_bind,GX,Result.andThen_ok,run_underlying Tryd.underlying47]
 refine (congrArg (fun R=>Result.andThen R _) (show _=Result.ok #[((0:Nat),32),(32,32),(2 * 32,32),(3 * 32,32)] w from ?h)).trans ?_
 case h=>kernel_rfl
 simp only [Result.andThen_ok]
 rw [show (Value.agg (arr .u8 (acE 128 0))).cells=arr .u8 (acE 128 0) from rfl,fill4 .u8 32 a b c d (acE 128 0) ha hb hc hd (by simp)]
 rfl
theorem DK:(Tryd.prog.info? 47).map (·.size)=some 128:=by kernel_rfl
theorem nm_row (j:Nat) (hj:j < 4):(#[.string ⟨#[114,111,111,116]⟩, .string ⟨#[115,105,103,110,101,114]⟩, .string ⟨#[100,101,118,105,99,101]⟩, .string ⟨#[107,101,121]⟩]:Array Value)[j]? = some (.string (PX j)):=by
 match j,hj with
 | 0,_=>rfl
 | 1,_=>rfl
 | 2,_=>rfl
 | 3,_=>rfl
theorem RA (seed:Int) (w:World) (hw : -9223372036854775808≤seed∧seed≤9223372036854775807) (hT:Ha.eP w) :
  Calls Tryd.prog 15 #[.int .i64 seed] w fun e w'=>e = .returned (.agg (lF (sec seed 0) (sec seed 1) (sec seed 2) (sec seed 3)))∧Below w.heap.size w w':=by
 obtain ⟨zs,hzs⟩:∃ zs:List Int,zs=acE 128 0:=⟨_,rfl⟩
 have hz:∀ w,(zeroValue 47).run Tryd.prog w = .ok (.agg (arr .u8 zs)) w:=by intro w;rw [hzs];exact GX w
 have hk0:zs=kl seed 0:=by rw [hzs];rfl
 have hzk:∀ w,(zeroValue 68).run Tryd.prog w = .ok (.agg (arr .u8 zs)) w:=by intro w;rw [hzs];exact zeroK w
 have hzl:zs.length=128:=by rw [hzs];rfl
 obtain ⟨SR,hSR⟩:∃ x:Array Value,x = #[.string ⟨#[114,111,111,116]⟩, .string ⟨#[115,105,103,110,101,114]⟩, .string ⟨#[100,101,118,105,99,101]⟩, .string ⟨#[107,101,121]⟩]:=⟨_,rfl⟩
 have hnm:∀ j,j < 4→SR[j]? = some (.string (PX j)):=by rw [hSR];exact nm_row
 have M1:=fun w=>gu seed w hw
 have M2:=fun (j:Nat) sa c w hs ht=>Ha.jL sa (8+(PX j).size) c (iV seed ++ gY (PX j)) w hs (TQ _ _) (by have:=Wv j;omega) ht
 have hse:∀ j,Ha.hash (iV seed ++ gY (PX j))=sec seed j:=fun j=>rfl
 have hbl:=fU seed
 have hsb:=fun j=>zL (PX j)
 have hnl:=Wv
 have hsl:=eO seed
 have hkl:=kl_len seed
 have hks:=kl_succ seed
 have hk4:=kl_four seed
 have hgt:=hT.lt
 have hbd:=fun w=>Nb (sec seed 0) (sec seed 1) (sec seed 2) (sec seed 3) (eO _ _) (eO _ _) (eO _ _) (eO _ _) w
 have hsz:=Dn (eO seed 0) (eO seed 1) (eO seed 2) (eO seed 3)
 have hpt:=vD (eO seed 0) (eO seed 1) (eO seed 2) (eO seed 3)
 have Qk:(lF (sec seed 0) (sec seed 1) (sec seed 2) (sec seed 3)).all (·.oneCell')=true:=av _ _
 simp only [hse] at M2
 obtain ⟨b8,jP⟩:∃ x,x=iV seed:=⟨_,rfl⟩
 rw [← jP] at M1 hbl
 simp only [← jP] at M2
 clear hse
 obtain ⟨SC,hSC⟩:∃ x,x=sec seed:=⟨_,rfl⟩
 rw [← hSC] at hsl hks hk4 hbd hsz hpt Qk ⊢
 simp only [← hSC] at M2
 obtain ⟨KL,hKL⟩:∃ x,x=kl seed:=⟨_,rfl⟩
 rw [← hKL] at hkl hks hk4 hk0
 obtain ⟨ST,hST⟩:∃ x,x=lF (SC 0) (SC 1) (SC 2) (SC 3):=⟨_,rfl⟩
 rw [← hST] at hk4 hbd hsz hpt Qk ⊢
 obtain ⟨NM,hNM⟩:∃ x,x=PX:=⟨_,rfl⟩
 simp only [← hNM] at hnm hsb M2
 rw [← hNM] at hnl
 obtain ⟨w2,hw2⟩:∃ x,x=((w.alloc (.cells (arr .u8 zs) 47)).alloc (.cells SR 9)).alloc (.cells (arr .u8 zs) 68):=⟨_,rfl⟩
 have hr0:w2.heap[w.heap.size]? = some (.cells (arr .u8 zs) 47 (0,0)):=by rw [hw2];exact aY (aY (aG w _) _) _
 have hr1:w2.heap[w.heap.size+1]? = some (.cells SR 9 (0,0)):=by rw [hw2];have:=aY (aG (w.alloc (.cells (arr .u8 zs) 47)) (.cells SR 9)) (.cells (arr .u8 zs) 68);rwa [World.size_alloc] at this
 have hr2:w2.heap[w.heap.size+1+1]? = some (.cells (arr .u8 zs) 68 (0,0)):=by rw [hw2];have:=aG ((w.alloc (.cells (arr .u8 zs) 47)).alloc (.cells SR 9)) (.cells (arr .u8 zs) 68);rwa [World.size_alloc,World.size_alloc] at this
 have hb2:Below w.heap.size w w2:=by rw [hw2];exact (((Below.refl _ w).alloc (acF _) _).alloc (by simp) _).alloc (by simp;omega) _
 have hs2:w.heap.size+1+1 < w2.heap.size:=aO hr2
 rw [hk0] at hr2
 have HZ:=acD hz
 have HZK:=acD hzk
 have uT:=acD hzl
 have Cz:=acD M1
 have GN:=acD M2
 have q8:=acD hbl
 have QI:=acD hsb
 have yt:=acD hnl
 have HSL:=acD hsl
 have kU:=acD hkl
 have HKS:=acD hks
 have tK:=acD hk4
 have HGT:=acD hgt
 have HNM:=acD hnm
 have HBD:=acD hbd
 have xI:=acD hsz
 have HPT:=acD hpt
 have HSA:=acD Qk
 have xJ:=acD hSR.symm
 have HW2:=acD hw2.symm
 have FY:=acD hr0
 have HR1:=acD hr1
 have HR2:=acD hr2
 have HB2:=acD hb2
 have Uh:=acD hT
 clear hz hzk hzl M1 M2 hbl hsb hnl hsl hkl hks hk4 hgt hnm hbd hsz hpt Qk hSR hw2 hr0 hr1 hr2 hb2 hs2 hT hk0 hzs jP hSC hKL hST hNM hw
 go_enter Tryd.func15, Tryd.ntmps15
 go_wp2_with (first|((with_reducible refine aS 2 ?_);refine aj rfl 47 rfl _ (HZ.out _) ?_)|((with_reducible refine aS 4 ?_);refine aj rfl 68 rfl _ (HZK.out _) ?_;(try simp only [World.size_alloc]);rw [xJ.out,HW2.out]))
 go_loopw [5] (fun i wr=>∃ j:Nat,j≤4∧i = .int .i64 j∧wr.heap[w.heap.size+1+1]? = some (.cells (arr .u8 (KL j)) 68 (0,0))∧Kept (fun x=>x=w.heap.size+1+1) w2 wr) (fun i _=>4 - (intOf i).toNat)
 case atStart=>exact ⟨0,Nat.zero_le _,rfl,HR2.out,Kept.refl _ _⟩
 case round =>
  obtain ⟨j,hj,rfl,hb,hB⟩:=hrel
  have hr1:=hB.blk HR1.out (by omega)
  have hr0:=hB.blk FY.out (by omega)
  have HR0':=acD hr0
  have yS:=acD hb
  have oZ:=acD hB
  by_cases hlt:j < 4
  ·have y0:wr.cell? ⟨w.heap.size+1,j,none⟩=some (.string (NM j)):=(aF hr1 j).trans (HNM.out j hlt)
   have hTr:∀ w',Kept (fun x=>x=w.heap.size+1+1) wr w'→Ha.eP w':=fun w' k=>((Ha.eP.kept Uh.out (Kept.of_below (T:=fun _=>False) HB2.out) (fun h=>h)).kept hB (by have:=HGT.out;omega)).kept k (by have:=HGT.out;omega)
   have HTR:=acD hTr
   have HMJ:=acD (fun sa c w hs ht=>GN.out j sa c w hs ht)
   have HSJ:=acD (HSL.out j)
   have HSBJ:=acD (QI.out j)
   have HNLJ:=acD (yt.out j)
   have HKJ:=acD (kU.out j hj)
   have HKSJ:=acD (HKS.out j hlt)
   have hsq:w.heap.size+1+1 < wr.heap.size:=aO hb
   have HSQ:=acD hsq
   have hlti:(j:Int) < 4:=by omega
   clear hr0 hr1 hb hB hTr hsq
   generalize NM j=nm at y0 HMJ HSBJ HNLJ
   generalize SC j=sc at HMJ HSJ HKSJ
   generalize KL j=klj at yS HKJ HKSJ
   go_upto_region 6 with fail
   have HB0:=acD ((Kept.refl (fun x=>x=w.heap.size+1+1) wr).drew)
   refine wp_region_held_drew (S:=(fun w'=>Kept (fun x=>x=w.heap.size+1+1) wr w')) (by kernel_rfl) (HB0.out) (fun hHeld=>?_)
   refine wpAnyH_take (i:=0) (oi:=(⟨some 11,_,_,_,_,none⟩:Oper)) (v:=?v1) rfl (by kernel_rfl) (by kernel_rfl) (by kernel_rfl) (fun _ _ _ h=>h) (Or.inl ⟨by rfl,?hy1⟩) (by assumption) ?rest1
   case hy1=>(intro w hSw;(try dsimp only at hSw);go_simp;try (with_reducible rfl))
   (try simp only [Act.put,sA,sZ,sS])
   refine wpAnyH_take (i:=1) (oi:=(⟨some 12,_,_,_,_,none⟩:Oper)) (v:=?v2) rfl (by kernel_rfl) (by kernel_rfl) (by kernel_rfl) (fun _ _ _ h=>h) (Or.inl ⟨by rfl,?hy2⟩) (by assumption) ?rest2
   case hy2=>(intro w hSw;(try dsimp only at hSw);go_simp;try (with_reducible rfl))
   (try simp only [Act.put,sA,sZ,sS])
   refine wpAnyH_take (i:=3) (oi:=(⟨some 14,_,_,_,_,none⟩:Oper)) (v:=?v3) rfl (by kernel_rfl) (by kernel_rfl) (by kernel_rfl) (fun _ _ _ h=>h) (Or.inl ⟨by rfl,?hy3⟩) (by assumption) ?rest3
   case hy3=>(intro w hSw;(try dsimp only at hSw);go_simp;try (with_reducible rfl))
   (try simp only [Act.put,sA,sZ,sS])
   refine wpAnyH_take (i:=4) (oi:=(⟨some 15,_,_,_,_,none⟩:Oper)) (v:=?v4) rfl (by kernel_rfl) (by kernel_rfl) (by kernel_rfl) (fun _ _ _ h=>h) (Or.inl ⟨by rfl,?hy4⟩) (by assumption) ?rest4
   case hy4=>(intro w hSw;(try dsimp only at hSw);go_simp;try (with_reducible rfl))
   (try simp only [Act.put,sA,sZ,sS])
   refine wpAnyH_take (i:=5) (oi:=(⟨some 16,_,_,_,_,none⟩:Oper)) (v:=?v5) rfl (by kernel_rfl) (by kernel_rfl) (by kernel_rfl) (fun _ _ _ h=>h) (Or.inl ⟨by rfl,?hy5⟩) (by assumption) ?rest5
   case hy5=>(intro w hSw;(try dsimp only at hSw);go_simp;try (with_reducible rfl))
   (try simp only [Act.put,sA,sZ,sS])
   refine wpAnyH_take (i:=6) (oi:=(⟨some 17,_,_,_,_,none⟩:Oper)) (v:=(.string nm)) rfl (by kernel_rfl) (by kernel_rfl) (by kernel_rfl) (fun _ _ _ h=>h) (Or.inl ⟨by rfl,?hy6⟩) (by assumption) ?rest6
   case hy6=>(intro w hSw;(try dsimp only at hSw);have hx:=hSw.l9 y0 (fun e=>absurd e (Nat.ne_of_lt (Nat.lt_succ_self _)));go_simp;try (with_reducible rfl))
   (try simp only [Act.put,sA,sZ,sS])
   refine wpAnyH_ready (rs:=[2]) (by kernel_rfl) (by simp) ?_
   refine AllReadyH.cons (o:=(⟨some 13,_,_,_,_,none⟩:Oper)) rfl (fun K hK=>?_) AllReadyH.nil
   go_simp
   go_at_call 30
   refine (Cz.out _).mono ?_
   rintro e w7 ⟨v2,rfl,ho2,dR⟩
   have eG:=acD (HB0.out.trans (Kept.of_below dR))
   have yS:=acD (Below.blk dR yS.out (aO yS.out))
   have Br:=acD (ho2.mono (B':=wr.heap.size) HB0.out.size)
   obtain ⟨s2,c2,hv2, -⟩:=ho2.form
   rw [q8.out] at hv2
   subst hv2
   clear ho2
   clear dR
   (try dsimp only)
   refine hK.out _ _ (eG.out) (fun hHeld=>?_)
   clear hK K
   (try simp only [Act.put,sA,sZ,sS])
   refine wpAnyH_ready (rs:=[7]) (by kernel_rfl) (by simp) ?_
   refine AllReadyH.cons (o:=(⟨some 18,_,_,_,_,none⟩:Oper)) rfl (fun K hK=>?_) AllReadyH.nil
   refine CG rfl (.tmp 13) (.tmp 17) 9 Tryd.underlying9 rfl wr.heap.size (.slice s2 8 c2) b8 nm ?ca1 ?ca2 Br.out (by rw [q8.out];have:=HNLJ.out;omega) eG.out.size ?_
   case ca1=>go_simp
   case ca2=>go_simp
   intro v8 w8 ho8 hg8
   have hbl8:=aQ Br.out hg8 (Below.refl _ _) eG.out.size
   have fC:=acD (eG.out.Rt hbl8)
   have yS:=acD (Below.blk hbl8 yS.out HSQ.out)
   obtain ⟨s4,c4,hv4, -, -, hs4, -⟩:=ho8.form
   rw [acG,q8.out,HSBJ.out] at hv4 hs4
   subst hv4
   have Cv:=acD hs4
   clear ho8 hg8 hbl8 hs4
   refine hK.out _ _ (fC.out) (fun hHeld=>?_)
   clear hK K
   (try simp only [Act.put])
   refine wpAnyH_ready (rs:=[8]) (by kernel_rfl) (by simp) ?_
   refine AllReadyH.cons (o:=(⟨some 19,_,_,_,_,none⟩:Oper)) rfl (fun K hK=>?_) AllReadyH.nil
   go_simp
   go_at_call 14
   refine (HMJ.out _ _ _ Cv.out (HTR.out _ fC.out)).mono ?_
   rintro e w9 ⟨rfl,dF⟩
   have kW:=acD (fC.out.trans (Kept.of_below dF))
   have yS:=acD (Below.blk dF yS.out (aO yS.out))
   clear dF
   (try dsimp only)
   refine hK.out _ _ (kW.out) (fun hHeld=>?_)
   clear hK K
   (try simp only [Act.put,sA,sZ,sS])
   refine wpAnyH_take (i:=9) (oi:=(⟨some 20,_,_,_,_,none⟩:Oper)) (v:=(.pointer (some ⟨w.heap.size+1+1,32 * j,none⟩))) rfl (by kernel_rfl) (by kernel_rfl) (by kernel_rfl) (fun _ _ _ h=>h) (Or.inl ⟨by rfl,?hy10⟩) (by assumption) ?rest10
   case hy10=>(intro w hSw;(try dsimp only at hSw);go_simp;try (with_reducible rfl))
   (try simp only [Act.put,sA,sZ,sS])
   refine wpAnyH_ready (rs:=[10]) (by kernel_rfl) (by simp) ?_
   refine AllReadyH.cons (o:=(⟨none,_,_,_,_,none⟩:Oper)) rfl (fun K hK=>?_) AllReadyH.nil
   refine xR rfl 23 (.tmp 20) (.tmp 19) rfl (w.heap.size+1+1) (32 * j) (arr .u8 klj) (arr .u8 sc) 68 yS.out rfl rfl (by rw [aD,aD,HSJ.out,HKJ.out];omega) (by rw [aD,HSJ.out];exact pV) (av _ _) ?_
   intro w11 hb11 hk11 hz11
   have HB11:=acD (kW.out.cO hk11 (fun i hi e=>e))
   have hb':=hb11
   rw [HKSJ.out] at hb'
   have HFIN:=acD hb'
   have JA:=HB11
   clear hb11 hk11 hz11 hb'
   refine hK.out _ _ (HB11.out) (fun hHeld=>?_)
   clear hK K
   (try simp only [Act.put])
   refine wpAnyH_done (by kernel_rfl) ?_ _
   (try simp only [Exit.then])
   go_wp2_with fail
   go_roundw
   case rel=>exact ⟨j+1,by omega,by go_num,HFIN.out,oZ.out.trans JA.out⟩
   case measure=>simp [intOf];omega
  ·obtain rfl:j=4:=by omega
   clear hr0 hr1 hb hB
   have hbb:=yS.out
   rw [tK.out] at hbb
   have HR4:=acD hbb
   clear hbb yS
   go_wp2_with (first|((with_reducible refine aS 22 ?_);refine ak rfl 23 _ rfl (w.heap.size+1+1) 0 _ 68 (0,0) _ HR4.out rfl .u8 (SC 0) HPT.out.1 Tryd.underlying23 rfl (by rw [HSL.out];exact pV) ?_)|((with_reducible refine aS 24 ?_);refine ak rfl 23 _ rfl (w.heap.size+1+1) 32 _ 68 (0,0) _ HR4.out rfl .u8 (SC 1) HPT.out.2.1 Tryd.underlying23 rfl (by rw [HSL.out];exact pV) ?_)|((with_reducible refine aS 26 ?_);refine ak rfl 23 _ rfl (w.heap.size+1+1) 64 _ 68 (0,0) _ HR4.out rfl .u8 (SC 2) HPT.out.2.2.1 Tryd.underlying23 rfl (by rw [HSL.out];exact pV) ?_)|((with_reducible refine aS 28 ?_);refine ak rfl 23 _ rfl (w.heap.size+1+1) 96 _ 68 (0,0) _ HR4.out rfl .u8 (SC 3) HPT.out.2.2.2 Tryd.underlying23 rfl (by rw [HSL.out];exact pV) ?_)|((with_reducible refine aS 29 ?_);refine wpList_build rfl 47 _ rfl #[(0, .agg (arr .u8 (SC 0))),(1, .agg (arr .u8 (SC 1))),(2, .agg (arr .u8 (SC 2))),(3, .agg (arr .u8 (SC 3)))] rfl _ (HBD.out _) ?_)|((with_reducible show wpList _ _ _ (Oper.mk none _ _ _ _ _ :: _) _ _);refine ah rfl 47 _ _ rfl w.heap.size _ _ 47 HR0'.out rfl rfl (by rw [xI.out,aD,uT.out]) (by rw [xI.out];exact DK) HSA.out ?_;intro w9 dF nY KZ;have FW:=acD dF;have kW:=acD ((HB2.out.trans (oZ.out.toBelow HB2.out.size (by rintro i rfl;omega))).trans (nY.toBelow (acH HB2.out.size oZ.out.size) (by rintro i rfl;exact acF _)));clear dF nY KZ))
   (try simp only [Exit.inBlock,Exit.then])
   refine bodyPost_ret (results_cell_row rfl _ _ w.heap.size 47 _ (0,0) _ rfl FW.out Tryd.underlying47 rfl (by rw [xI.out];exact DK)) rfl ?_
   exact ⟨rfl,kW.out⟩
end Go.Proofs.YthdgbgleklkaiaaDoor.Ms
namespace Go.Proofs.YthdgbgleklkaiaaDoor.Ms
open Go.RowKit Lm Fp Cu Sl
def Ia (x:List Int):List Int:=Ha.hash (0 :: x)
theorem RU (x:List Int):(Ia x).length=32:=Ha.dS _
theorem Hr (w:World) (x:Int) (hx:True):aU (w.alloc (.cells #[.int .u8 x] 5)) w.heap.size (.slice (some ⟨w.heap.size,0,none⟩) 1 1) [x] :=
 ⟨by simp, .inr ⟨w.heap.size,1, #[.int .u8 x],rfl,acF _,aG w _,by simp,by simp [maxLen],rfl,rfl⟩⟩
theorem RQ (sa:Option Addr) (c:Nat) (x:List Int) (w:World) (hs:oq w sa 1 [x]) (bx:bytes x) (hl:x.length≤1000000) (hT:Ha.eP w) :
  Calls Tryd.prog 38 #[.slice sa 1 c] w fun e w'=>e = .returned (.agg (arr .u8 (Ia x)))∧Below w.heap.size w w':=by
 obtain ⟨zn,hzn⟩:∃ zs:List Int,zs=acE 32 0:=⟨_,rfl⟩
 have HZ:Hid (∀ w,(zeroValue 23).run Tryd.prog w = .ok (.agg (arr .u8 zn)) w):=acD (by intro w;rw [hzn];exact zero_num w)
 have Um:Hid (zn.length=32):=acD (by rw [hzn];rfl)
 have hbx:bytes (0 :: x):=fun y hy=>by
  rcases List.mem_cons.1 hy with rfl|h
  ·decide
  ·exact bx y h
 have M2:=fun sa c u (hs:Src u sa (1+x.length) (0 :: x)) ht=>Ha.jL sa (1+x.length) c (0 :: x) u hs hbx (by omega) ht
 have hke:Ha.hash (0 :: x)=Ia x:=rfl
 rw [hke] at M2
 have hkl:=RU x
 generalize Ia x=K at M2 hkl ⊢
 obtain ⟨a,s1,c1,rfl,hc, -, hs1⟩:=hs.2 0 (by omega)
 have e0:a.add 0=a:=by cases a with|mk b o i=>cases i <;> rfl
 rw [e0] at hc
 simp only [List.getD_cons_zero] at hc hs1
 have hb1:=(Below.refl _ w).alloc (acF _) (.cells (arr .u8 zn) 23)
 have hb2:=hb1.alloc (by simp) (.cells #[.int .u8 0] 5)
 have yS:Hid ((w.alloc (.cells (arr .u8 zn) 23)).heap[w.heap.size]? = some (.cells (arr .u8 zn) 23 (0,0))):=acD (aG w _)
 have HB:=acD hb1
 have tQ:((w.alloc (.cells (arr .u8 zn) 23)).alloc (.cells #[.int .u8 0] 5)).cell? a=some (.slice s1 x.length c1):=by
  exact (Kept.of_below hb2 (T:=fun _=>False)).l9 hc id
 have HS:=acD (hs1.below hb2)
 have Uh:=acD (fun (u:World) (k:Below w.heap.size w u)=>Ha.eP.kept hT (Kept.of_below (T:=fun _=>False) k) (fun h=>h))
 have GN:=acD M2
 have kU:=acD hkl
 have iK:=acD hl
 clear M2 hkl hke hb1 hb2 hs hs1 hc e0 hT hbx hzn bx hl
 go_enter Tryd.func38, Tryd.ntmps38
 go_upto_region 1 with ((with_reducible refine aS 2 ?_);refine aj rfl 23 rfl _ (HZ.out _) ?_)
 (try simp only [World.size_alloc,Act.put,sA,sZ,sS])
 generalize w.alloc (.cells (arr .u8 zn) 23)=wb at yS HB tQ HS ⊢
 go_wp2_with (first|((with_reducible refine aS 17 ?_);refine aR rfl (.tmp 13) (.tmp 16) rfl wb.heap.size (.slice (some ⟨wb.heap.size,0,none⟩) 1 1) [0] rfl (Hr wb 0 trivial) s1 x.length c1 x rfl HS.out (by have:=iK.out;simp;omega) (by simp) ?_;intro v3 w3 how hgr _ _;have HB3:=acD (aQ (Hr wb 0 trivial) hgr ((Below.refl _ wb).alloc (acF _) _) (by simp));obtain ⟨s3,c3,hv3, -, -, hs3, -⟩:=how.form;rw [acG,List.length_singleton] at hv3 hs3;subst hv3;have yR:Hid (Src w3 s3 (1+x.length) (0 :: x)):=acD hs3;clear hs3 how hgr)|((with_reducible show Calls _ 14 _ _ _);go_at_call 14; refine (GN.out _ _ _ yR.out (Uh.out _ (HB.out.trans (HB3.out.mono HB.out.size)))).mono ?_;rintro e w4 ⟨rfl,hb4⟩;have HB4:=acD (HB.out.trans ((HB3.out.trans (hb4.mono HB3.out.size)).mono HB.out.size));have HR4:=acD (Below.blk (HB3.out.trans (hb4.mono HB3.out.size)) yS.out (aO yS.out));clear hb4)|((with_reducible refine aT 2 ?_);refine ah rfl 23 _ _ rfl (w.heap.size) _ _ 23 HR4.out rfl rfl (ay _ _ kU.out Um.out) (Sl.bE kU.out) (av _ _) ?_;intro w5 hb hk hz;have fM:=acD hb;have JC:=acD hk;clear hb hk hz))
 (try simp only [Exit.then])
 all_goals refine bodyPost_ret (results_cell_row rfl _ _ (w.heap.size) 23 _ (0,0) _ rfl fM.out Tryd.underlying23 rfl (Sl.bE kU.out)) rfl ?_
 exact ⟨rfl,HB4.out.trans ⟨JC.out.os,JC.out.tape,JC.out.output,JC.out.size,fun i hi=>JC.out.block i (Nat.lt_of_lt_of_le hi HB4.out.size) (fun e=>by have e:i=w.heap.size:=e;omega)⟩⟩
end Go.Proofs.YthdgbgleklkaiaaDoor.Ms
namespace Go.Proofs.YthdgbgleklkaiaaDoor.Po
open Go.RowKit Lm
theorem zero32' (w:World):(zeroValue 23).run Tryd.prog w = .ok (.agg (arr .u8 (acE 32 0))) w:=by kernel_rfl
end Go.Proofs.YthdgbgleklkaiaaDoor.Po
namespace Go.Proofs.YthdgbgleklkaiaaDoor.Ed
open Go.RowKit Lm Fp Cu Pri Sc
theorem abH (k:Nat):clamp k < 2 ^ 256:=by
 have:=Nat.mod_lt (k / 8 * 8) (show 2 ^ 254 > 0 by decide)
 unfold clamp
 omega
theorem base_is (k:Nat) (hk:k < 2 ^ 256):Is (ku base k 256) (tm B0 k):=Is.base.Ij kR k hk
theorem on_b (k:Nat):on (tm B0 k):=iR mX dK kR k
theorem read_b (k:Nat) (hk:k < 2 ^ 256):∃ Q,iU (lK (ku base k 256))=some Q∧Is Q (tm B0 k):=by
 rw [(base_is k hk).bytes]
 exact R4 (on_b k)
theorem may_pub (seed:Nat):(iU (xY seed)).isSome=true:=by
 obtain ⟨Q,h,_⟩:=read_b (jR seed) (abH _)
 unfold xY
 rw [h]
 rfl
end Go.Proofs.YthdgbgleklkaiaaDoor.Ed
namespace Go.Proofs.YthdgbgleklkaiaaDoor
open Go.RowKit
theorem bM.also {w u:World} {l:List (Nat×Array Value×TypeId)} (h:bM w u l) {g:Nat} {c:Array Value} {t:TypeId} (hg:u.heap[g]? = some (.cells c t (0,0))) (hl:w.heap.size≤g) (hne:∀ (i:Nat) (e:Nat×Array Value×TypeId),l[i]? = some e→e.1≠g):bM w u (l ++ [(g,c,t)]):=by
 refine ⟨fun i g' c' t' hi=>?_,fun i j g' c' t' c2 t2 hi hj=>?_,h.below⟩
 ·rw [acU] at hi
  split at hi
  ·exact h.mem i g' c' t' hi
  ·have:=acK hi
   simp only [acL,Prod.mk.injEq] at this
   obtain ⟨rfl,rfl,rfl⟩:=this
   exact ⟨hg,hl⟩
 ·rw [acU] at hi hj
  split at hi <;> split at hj
  ·exact h.inj i j g' c' t' c2 t2 hi hj
  ·have:=acK hj
   simp only [acL,Prod.mk.injEq] at this
   exact absurd this.1 (hne _ _ hi)
  ·have:=acK hi
   simp only [acL,Prod.mk.injEq] at this
   exact absurd this.1 (hne _ _ hj)
  ·have h1:=(List.getElem?_eq_some_iff.1 hi).1
   have h2:=(List.getElem?_eq_some_iff.1 hj).1
   simp at h1 h2
   omega
theorem bM.own {w u u':World} {l:List (Nat×Array Value×TypeId)} {v:Value} {xs:List Int} (h:bM w u l) (ho:aU u' u.heap.size v xs) (hb:Below u.heap.size u u') (hp:0 < xs.length) :
  ∃ (g cap:Nat) (cur:Array Value),v = .slice (some ⟨g,0,none⟩) xs.length cap∧xs.length≤cap∧bM w u' (l ++ [(g,cur, 5)])∧(∀ z:World,z.heap[g]? = some (.cells cur 5 (0,0))→Src z (some ⟨g,0,none⟩) xs.length xs):=by
 obtain ⟨-, h2⟩:=ho
 rcases h2 with ⟨rfl,h0⟩|⟨g,cap,cur,rfl,hB,hg,hn,hm,hs,ht⟩
 ·omega
 ·refine ⟨g,cap,cur,rfl,hn,(h.kept hb).also hg (acH h.below.size hB) (fun i e hi=>?_),fun z hz=>nL hz ht rfl⟩
  have:=h.lt i (g:=e.1) (c:=e.2.1) (t:=e.2.2) hi
  omega
end Go.Proofs.YthdgbgleklkaiaaDoor
