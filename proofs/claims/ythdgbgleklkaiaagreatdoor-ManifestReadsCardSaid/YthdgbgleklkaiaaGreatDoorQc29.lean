/- Builds of a stop and of a certificate. cert.Stop: cert.Sign: Cursor.Ra. Condition: as each theorem says. -/

import Derived.Test.YthdgbgleklkaiaaGreatDoorQc17
import Derived.Test.YthdgbgleklkaiaaGreatDoorQc21
import Derived.Test.YthdgbgleklkaiaaGreatDoorQc28
open Go.Lib renaming hid→abC
open List renaming replicate→abD,drop_eq_nil_of_le→abG,drop_append→abJ,nil_append→abK,take_of_length_le→abM,mem_of_mem_take→abN,range→abP,map_append→abQ,length_append→abR,take_left'→abU,foldl_append→abX,range_succ→abZ,flatten_append→acA
open BitVec renaming ofInt→abE,toNat_ofNat→abF,ofInt_natCast→abT,toNat_or→acB
open Nat renaming le_refl→abH,mod_eq_of_lt→abI,zero_le→abL,le_trans→abO,lt_of_lt_of_le→abY,two_pow_add_eq_or_of_lt→acC
open Int renaming toNat_natCast→abS,eq_ofNat_of_zero_le→abW
open Array renaming all_append→abV
set_option linter.unusedSimpArgs false
set_option linter.unusedVariables false
set_option maxRecDepth 100000
set_option maxHeartbeats 16000000
namespace Go.Proofs.YthdgbgleklkaiaaGreatDoor.Ce
open Go.RowKit Lm Fp Cu Sl Sc
theorem pV (place:Nat→Option (Nat×Nat)) (X Y:List Value) (v:Value) (i off:Nat) (rest:List (Nat×Value)) (ho:off=X.length) (hp:place i=some (off,v.cells.size)) (hY:v.cells.size≤Y.length) :
  Instr.fill place (X ++ Y).toArray ((i,v) :: rest)=Instr.fill place (X ++ v.cells.toList ++ Y.drop v.cells.size).toArray rest:=by
 subst ho
 rw [DN _ _ _ _ _ X.length hp (by simp;omega)]
 congr 1
 simp only
 congr 1
 have e1:List.take X.length (X ++ Y)=X:=abU rfl
 have e2:List.drop (X.length+v.cells.size) (X ++ Y)=Y.drop v.cells.size:=by
  rw [abJ,abG (by simp),Nat.add_sub_cancel_left,abK]
 rw [e1,e2]
theorem uM (w:World):(zeroValue 29).run Tryz.prog w = .ok (.agg (dz 0 (abD 32 0) (abD 64 0))) w:=by kernel_rfl
theorem kQ:(Tryz.prog.info? 29).map (·.size)=some 97:=by kernel_rfl
theorem jO {id:Int} {ks gs:List Int} (h:gs.length=64) (hk:ks.length=32):(dz id ks gs).size=97:=by simp [dz,arr,h,hk]
theorem JL (w:World):(Instr.build 29 #[]).run Tryz.prog w = .ok (.agg (dz 0 (abD 32 0) (abD 64 0))) w:=by kernel_rfl
theorem TQ (id:Int) (ks gs:List Int) (hk:ks.length=32) (h:gs.length=64) (z:List Value) (hz:z.length=97):Instr.fill (fun x => #[((0:Nat),1),(1,32),(33,64)][x]?) z.toArray [(0, .int .i64 id),(1, .agg (arr .u8 ks)),(2, .agg (arr .u8 gs))]=some (dz id ks gs):=by
 have h0:=pV (fun x => #[((0:Nat),1),(1,32),(33,64)][x]?) [] z (.int .i64 id) 0 0 [(1, .agg (arr .u8 ks)),(2, .agg (arr .u8 gs))] rfl rfl (by simp [Value.cells,hz])
 have h1:=pV (fun x => #[((0:Nat),1),(1,32),(33,64)][x]?) [.int .i64 id] (z.drop 1) (.agg (arr .u8 ks)) 1 1 [(2, .agg (arr .u8 gs))] rfl (by simp [Value.cells,arr,hk]) (by simp [Value.cells,arr,hk,hz])
 have h2:=pV (fun x => #[((0:Nat),1),(1,32),(33,64)][x]?) ([.int .i64 id] ++ (arr .u8 ks).toList) ((z.drop 1).drop 32) (.agg (arr .u8 gs)) 2 33 [] (by simp [arr,hk]) (by simp [Value.cells,arr,h]) (by simp [Value.cells,arr,h,hz])
 have ek:(Value.agg (arr .u8 ks)).cells.size=32:=by simp [Value.cells,arr,hk]
 rw [abK] at h0
 rw [ek] at h1
 rw [h0]
 refine h1.trans (h2.trans ?_)
 rw [Instr.fill]
 have e:((z.drop 1).drop 32).drop (Value.agg (arr .u8 gs)).cells.size=[]:=abG (by simp [Value.cells,arr,h,hz])
 rw [e]
 simp [dz,Value.cells]
theorem ND (id:Int) (ks gs:List Int) (hk:ks.length=32) (h:gs.length=64) (w:World):(Instr.build 29 #[(0, .int .i64 id),(1, .agg (arr .u8 ks)),(2, .agg (arr .u8 gs))]).run Tryz.prog w = .ok (.agg (dz id ks gs)) w:=by
 unfold Instr.build
 simp only [Sem.run_bind,uM,Result.andThen_ok,run_underlying Tryz.underlying29]
 refine (congrArg (fun R=>Result.andThen R _) (show _=Result.ok #[((0:Nat),1),(1,32),(33,64)] w from ?h)).trans ?_
 case h=>kernel_rfl
 simp only [Result.andThen_ok]
 have hf:=TQ id ks gs hk h (dz 0 (abD 32 0) (abD 64 0)).toList (by simp [dz,arr])
 rw [show (Value.agg (dz 0 (abD 32 0) (abD 64 0))).cells=(dz 0 (abD 32 0) (abD 64 0)).toList.toArray by simp [Value.cells],hf]
 rfl
end Go.Proofs.YthdgbgleklkaiaaGreatDoor.Ce
namespace Go.Proofs.YthdgbgleklkaiaaGreatDoor.Ce
open Go.RowKit Lm Fp Cu Sl Sc
theorem Qb {k:IntKind} (l:List Int):(arr k l).all (·.oneCell')=true:=ak _ _
end Go.Proofs.YthdgbgleklkaiaaGreatDoor.Ce
namespace Go.Proofs.YthdgbgleklkaiaaGreatDoor.Ce
open Go.RowKit Lm Fp Cu Sl Sc
theorem vG (id:Int) (ks gs:List Int):(dz id ks gs).all (·.oneCell')=true:=by
 rw [dz,abV,abV,Qb,Qb]
 simp [Value.oneCell']
def Bj:Array Value:=dz 0 (abD 32 0) (abD 64 0)
def ZO (root key:Nat) (id:Int):Value:=if xJ id=true then (if (iX key).isSome=true then .tuple #[.agg (dz id (n32 key) (kH root (oF id key))), .int .i64 0] else .tuple #[.agg Bj, .int .i64 21]) else .tuple #[.agg Bj, .int .i64 1]
end Go.Proofs.YthdgbgleklkaiaaGreatDoor.Ce
namespace Go.Proofs.YthdgbgleklkaiaaGreatDoor
open Go.RowKit
theorem pX (p q:Nat) (xs:List Int) (bad:Bool) (n:Int) (w:World) (h:dS w p q xs bad) (hl:xs.length≤1099511627776) :
  Calls Tryz.prog 40 #[.pointer (some ⟨p,0,none⟩), .int .i64 n] w fun e w'=>∃ v,e = .returned v∧aU w' w.heap.size v (bX xs bad n)∧dS w' p q (mP xs bad n) (!dR xs bad n)∧Kept (· = p) w w':=by
 cases bad with
 | true =>
  refine (ZJ p q xs n w h).mono ?_
  rintro e w' ⟨rfl,rfl⟩
  exact ⟨_,rfl,aU.nil _ _,h,Kept.refl _ _⟩
 | false =>
  by_cases hn:n < 0∨(0≤n∧(xs.length:Int) < n)
  ·have e:dR xs false n=false:=by
    rw [← Bool.not_eq_true,eu]
    omega
   refine (craw_no p q xs n w h hn).mono ?_
   rintro e' w' ⟨rfl,hc,hk, -⟩
   refine ⟨_,rfl,?_,?_,hk⟩
   ·rw [bX,e];exact aU.nil _ _
   ·rw [mP,e];exact hc
  ·obtain ⟨k,rfl⟩:=abW (show 0≤n by omega)
   have e:dR xs false (k:Int)=true:=eu.2 ⟨rfl,by omega,by omega⟩
   refine (craw_ok p q xs k w h (by omega) hl).mono ?_
   rintro e' w' ⟨v,rfl,ho,hc,hk⟩
   refine ⟨_,rfl,?_,?_,hk⟩
   ·rw [bX,e];exact ho
   ·rw [mP,e];exact hc
def Bp (ys:List Int):Int:=ys.foldl (fun u x=>bits .or .u64 (IntKind.u64.wrap (u * 256)) (IntKind.u64.wrap x)) 0
def mq (xs:List Int) (bad:Bool):Int:=wrap64 (Bp (bX xs bad 8))
theorem vH (ys:List Int) (j:Nat) (hj:j < ys.length):Bp (ys.take (j+1))=bits .or .u64 (IntKind.u64.wrap (Bp (ys.take j) * 256)) (IntKind.u64.wrap (ys.getD j 0)):=by
 rw [gD ys j 0 hj,Bp,abX]
 rfl
theorem Bh (p q:Nat) (xs:List Int) (bad:Bool) (w:World) (h:dS w p q xs bad) (hl:xs.length≤1099511627776) :
  Calls Tryz.prog 41 #[.pointer (some ⟨p,0,none⟩)] w fun e w'=>e = .returned (.int .i64 (mq xs bad))∧dS w' p q (mP xs bad 8) (!dR xs bad 8)∧Kept (· = p) w w':=by
 have HR:=abC (pX p q xs bad 8 w h hl)
 have HV:Hid (mq xs bad=wrap64 (Bp (bX xs bad 8))):=abC rfl
 have h8:(bX xs bad 8).length≤8:=by unfold bX;split <;> simp <;> omega
 clear h hl
 generalize mq xs bad=iv at HV
 generalize bX xs bad 8=ys at HR HV h8
 go_enter Tryz.func41, Tryz.ntmps41
 go_upto_region 2 with fail
 go_wp2_with (go_at_call 40; refine HR.out.mono ?_;rintro e w1 ⟨v1,rfl,ho1,hc1,hk1⟩;have xB:=abC (And.intro hc1 hk1);obtain ⟨s1,c1,rfl,hcc,hm1,hs1, -⟩:=ho1.form;have iY:=abC hs1;clear hc1 hk1 ho1 hs1 hm1)
 generalize hln:ys.length=ln
 have JZ:=abC hln
 rw [hln] at iY
 rw [hln] at h8
 clear hln hcc
 go_loopw [3,9] (fun u i wr=>∃ j:Nat,j≤ln∧i = .int .i64 j∧u = .int .u64 (Bp (ys.take j))∧wr=w1) (fun _ i _=>ln - (intOf i).toNat)
 case atStart=>exact ⟨0,abL _,rfl,rfl,rfl⟩
 case round =>
  obtain ⟨j,hj,rfl,rfl,rfl⟩:=hrel
  by_cases hlt:j < ln
  ·obtain ⟨a,rfl,x0⟩:=iY.out.cell j hlt
   have HB:=abC (vH ys j (by rw [JZ.out];exact hlt))
   generalize Bp (ys.take j)=u at HB
   generalize ys.getD j 0=x at HB x0
   go_wp2_with fail
   go_roundw
   case rel=>exact ⟨j+1,by omega,by go_num,by rw [HB.out],trivial⟩
   case measure=>simp [intOf];omega
  ·have e:ys.take j=ys:=abM (by rw [JZ.out];omega)
   rw [e]
   have hv:=HV.out
   generalize Bp ys=u at hv
   subst hv
   clear HV
   go_wp2_with fail
   go_ret
   exact ⟨rfl,xB.out⟩
end Go.Proofs.YthdgbgleklkaiaaGreatDoor
namespace Go.Proofs.YthdgbgleklkaiaaGreatDoor
open Go.RowKit
theorem ZQ (p q:Nat) (xs:List Int) (bad:Bool) (w:World) (h:dS w p q xs bad) :
    Calls Tryz.prog 44 #[.pointer (some ⟨p,0,none⟩)] w fun e w'=>e = .returned (.bool (!bad && decide (xs.length=0)))∧w=w':=by
  obtain ⟨⟨sa,c,h1, -, -, -, -⟩, -, -⟩:=h
  have c0:w.cell? ⟨p,0,none⟩=some (.slice sa xs.length c):=aF h1 0
  have c1:w.cell? ⟨p,1,none⟩=some (.bool bad):=aF h1 1
  clear h1
  generalize xs.length=n at c0 ⊢
  cases bad with
  | true =>
    go_enter Tryz.func44, Tryz.ntmps44
    go_wp2_with fail
    all_goals (try simp only [Exit.then])
    go_ret
    exact ⟨rfl,rfl⟩
  | false =>
    by_cases hn:n=0
    · subst hn
      go_enter Tryz.func44, Tryz.ntmps44
      go_wp2_with fail
      all_goals (try simp only [Exit.then])
      go_ret
      exact ⟨rfl,rfl⟩
    · have hz:((n:Int) == 0)=false:=by rw [beq_eq_false_iff_ne];omega
      rw [decide_eq_false hn]
      go_enter Tryz.func44, Tryz.ntmps44
      go_wp2_with fail
      all_goals (try simp only [Exit.then])
      go_ret
      exact ⟨rfl,rfl⟩
end Go.Proofs.YthdgbgleklkaiaaGreatDoor
namespace Go.Proofs.YthdgbgleklkaiaaGreatDoor.Ce
open Go.RowKit Lm Fp Cu Sl Sc
structure U5 (w u:World) (g:Nat) (C:Array Value) (t:TypeId) (zs:List Int) (bad:Bool) (p q:Nat):Prop where
  i:u.heap[g]? = some (.cells C t (0,0))
  c:dS u p q zs bad
  p1:g≠p
  p2:w.heap.size≤p
  b:Below w.heap.size w u
theorem U5.turn {w u u':World} {g:Nat} {C:Array Value} {t:TypeId} {zs zs':List Int} {bad bad':Bool} {p q:Nat} (h:U5 w u g C t zs bad p q) (k:Kept (· = p) u u') (c:dS u' p q zs' bad'):U5 w u' g C t zs' bad' p q :=
  ⟨k.blk h.i h.p1,c,h.p1,h.p2,h.b.trans ⟨k.os,k.tape,k.output,k.size,fun i hi=>k.block i (abY hi h.b.size) (by have:=h.p2;omega)⟩⟩
theorem U5.fresh {w u u':World} {g:Nat} {C:Array Value} {t:TypeId} {zs:List Int} {bad:Bool} {p q:Nat} (h:U5 w u g C t zs bad p q) (k:Below u.heap.size u u'):U5 w u' g C t zs bad p q :=
  ⟨Below.blk k h.i (aV h.i),h.c.below k,h.p1,h.p2,h.b.trans (k.mono h.b.size)⟩
theorem Dk {xs:List Int} (h:bytes xs) (bad:Bool) (n:Int):bytes (bX xs bad n)∧bytes (mP xs bad n):=by
  constructor
  · unfold bX
    split
    · exact fun x hx=>h x (abN hx)
    · exact fun x hx=>absurd hx (by simp)
  · unfold mP
    split
    · exact fun x hx=>h x (List.mem_of_mem_drop hx)
    · split
      · exact h
      · exact fun x hx=>absurd hx (by simp)
theorem raw_len (xs:List Int) (bad:Bool) (n:Int):(mP xs bad n).length≤xs.length:=by
  unfold mP
  split
  · simp
  · split
    · exact abH _
    · simp
end Go.Proofs.YthdgbgleklkaiaaGreatDoor.Ce
namespace Go.Proofs.YthdgbgleklkaiaaGreatDoor.Ms
open Go.RowKit
def kX (a b c d:List Int):Array Value:=arr .u8 (a ++ b ++ c ++ d)
theorem Df {a b c d:List Int} (ha:a.length=32) (hb:b.length=32) (hc:c.length=32) (hd:d.length=32):(kX a b c d).size=128:=by simp [kX,aD,ha,hb,hc,hd]
theorem pJ:(Tryz.prog.info? 25).map (·.size)=some 32:=by kernel_rfl
def secret (seed:Int) (s:ByteArray):List Int:=Ha.hash (jE seed ++ iq s)
theorem KG (seed:Int) (s:ByteArray):(secret seed s).length=32:=Ha.dM _
def Qe (i:Nat):ByteArray:=([⟨#[114,111,111,116]⟩,⟨#[115,105,103,110,101,114]⟩,⟨#[100,101,118,105,99,101]⟩,⟨#[107,101,121]⟩]:List ByteArray).getD i ⟨#[]⟩
theorem WX (i:Nat):(Qe i).size≤1000:=by
 unfold Qe
 match i with
 | 0=>decide
 | 1=>decide
 | 2=>decide
 | 3=>decide
 | (n+4)=>exact (show (0:Nat)≤1000 by decide)
def sec (seed:Int) (i:Nat):List Int:=secret seed (Qe i)
theorem eO (seed:Int) (i:Nat):(sec seed i).length=32:=KG _ _
theorem uS {a b c d:List Int} (ha:a.length=32) (hb:b.length=32) (hc:c.length=32) (hd:d.length=32) :
  ((kX a b c d).toList.drop 0).take a.length=a.map (Value.int .u8)∧((kX a b c d).toList.drop 32).take b.length=b.map (Value.int .u8)∧((kX a b c d).toList.drop 64).take c.length=c.map (Value.int .u8)∧((kX a b c d).toList.drop 96).take d.length=d.map (Value.int .u8):=by
 have e:(kX a b c d).toList=a.map (Value.int .u8) ++ (b.map (Value.int .u8) ++ (c.map (Value.int .u8) ++ d.map (Value.int .u8))):=by simp [kX,arr]
 have hA:(a.map (Value.int .u8)).length=32:=by simp [ha]
 have hB:(b.map (Value.int .u8)).length=32:=by simp [hb]
 have hC:(c.map (Value.int .u8)).length=32:=by simp [hc]
 have hD:(d.map (Value.int .u8)).length=32:=by simp [hd]
 rw [e,ha,hb,hc,hd]
 generalize a.map (Value.int .u8)=A at hA ⊢
 generalize b.map (Value.int .u8)=B at hB ⊢
 generalize c.map (Value.int .u8)=C at hC ⊢
 generalize d.map (Value.int .u8)=D at hD ⊢
 refine ⟨?_,?_,?_,?_⟩ <;> simp [abJ,hA,hB,hC,hD,abM,abG]
theorem _root_.Go.Proofs.YthdgbgleklkaiaaGreatDoor.Kept.RP {T:Nat→Prop} {a b c:World} (h:Kept T a b) (k:Below a.heap.size b c):Kept T a c :=
 ⟨k.os.trans h.os,k.tape.trans h.tape,k.output.trans h.output,abO h.size k.size,fun i hi ht=>(k.block i hi).trans (h.block i hi ht)⟩
theorem _root_.Go.Proofs.YthdgbgleklkaiaaGreatDoor.Ha.eP.kept {T:Nat→Prop} {w w':World} (h:Ha.eP w) (k:Kept T w w') (ht:¬ T 0):Ha.eP w':=fun t h64=>k.lV (h t h64) ht
theorem Uq (seed:Int) (s:ByteArray):bytes (jE seed ++ iq s):=fun x hx=>by
 rcases List.mem_append.1 hx with h|h
 ·exact kT seed x h
 ·exact Gf s x h
def kl (seed:Int) (j:Nat):List Int:=((abP j).map (sec seed)).flatten ++ abD (32 * (4 - j)) 0
theorem Ql (seed:Int) (j:Nat):(((abP j).map (sec seed)).flatten).length=32 * j:=by
 induction j with
 | zero=>rfl
 | succ j ih=>rw [abZ,abQ,acA,abR,ih];simp [eO];omega
theorem kl_len (seed:Int) (j:Nat) (hj:j≤4):(kl seed j).length=128:=by rw [kl,abR,Ql,List.length_replicate];omega
theorem kl_succ (seed:Int) (j:Nat) (hj:j < 4):((arr .u8 (kl seed j)).toList.take (32 * j) ++ (arr .u8 (sec seed j)).toList ++ (arr .u8 (kl seed j)).toList.drop (32 * j+(arr .u8 (sec seed j)).size)).toArray=arr .u8 (kl seed (j+1)):=by
 have h:=Ql seed j
 rw [bN,bN,aD,eO,kl,abQ]
 have hX:(((abP j).map (sec seed)).flatten.map (Value.int .u8)).length=32 * j:=by rw [List.length_map,h]
 rw [abU hX,abJ,abG (by rw [hX];omega),hX,abK,show 32 * j+32 - 32 * j=32 by omega,← List.map_drop,List.drop_replicate]
 simp only [arr,kl,abZ,abQ,acA,List.map_cons,List.map_nil,List.flatten_cons,List.flatten_nil,List.append_nil]
 rw [show 32 * (4 - j) - 32=32 * (4 - (j+1)) by omega]
theorem kl_four (seed:Int):arr .u8 (kl seed 4)=kX (sec seed 0) (sec seed 1) (sec seed 2) (sec seed 3):=by
 rw [kX,kl]
 congr 1
theorem zeroK (w:World):(zeroValue 97).run Tryz.prog w = .ok (.agg (arr .u8 (abD 128 0))) w:=by kernel_rfl
theorem Ie (w:World):(zeroValue 42).run Tryz.prog w = .ok (.agg (arr .u8 (abD 128 0))) w:=by kernel_rfl
theorem Nv (a b c d:List Int) (ha:a.length=32) (hb:b.length=32) (hc:c.length=32) (hd:d.length=32) (w:World) :
  (Instr.build 42 #[(0, .agg (arr .u8 a)),(1, .agg (arr .u8 b)),(2, .agg (arr .u8 c)),(3, .agg (arr .u8 d))]).run Tryz.prog w = .ok (.agg (kX a b c d)) w:=by
 unfold Instr.build
 simp only [Sem.run_bind,Ie,Result.andThen_ok,run_underlying Tryz.underlying42]
 refine (congrArg (fun R=>Result.andThen R _) (show _=Result.ok #[((0:Nat),32),(32,32),(2 * 32,32),(3 * 32,32)] w from ?h)).trans ?_
 case h=>kernel_rfl
 simp only [Result.andThen_ok]
 rw [show (Value.agg (arr .u8 (abD 128 0))).cells=arr .u8 (abD 128 0) from rfl,fill4 .u8 32 a b c d (abD 128 0) ha hb hc hd (by simp)]
 rfl
theorem DJ:(Tryz.prog.info? 42).map (·.size)=some 128:=by kernel_rfl
theorem nm_row (j:Nat) (hj:j < 4):(#[.string ⟨#[114,111,111,116]⟩, .string ⟨#[115,105,103,110,101,114]⟩, .string ⟨#[100,101,118,105,99,101]⟩, .string ⟨#[107,101,121]⟩]:Array Value)[j]? = some (.string (Qe j)):=by
 match j,hj with
 | 0,_=>rfl
 | 1,_=>rfl
 | 2,_=>rfl
 | 3,_=>rfl
theorem R3 (seed:Int) (w:World) (hw : -9223372036854775808≤seed∧seed≤9223372036854775807) (hT:Ha.eP w) :
  Calls Tryz.prog 17 #[.int .i64 seed] w fun e w'=>e = .returned (.agg (kX (sec seed 0) (sec seed 1) (sec seed 2) (sec seed 3)))∧Below w.heap.size w w':=by
 obtain ⟨zs,hzs⟩:∃ zs:List Int,zs=abD 128 0:=⟨_,rfl⟩
 have hz:∀ w,(zeroValue 42).run Tryz.prog w = .ok (.agg (arr .u8 zs)) w:=by intro w;rw [hzs];exact Ie w
 have hk0:zs=kl seed 0:=by rw [hzs];rfl
 have hzk:∀ w,(zeroValue 97).run Tryz.prog w = .ok (.agg (arr .u8 zs)) w:=by intro w;rw [hzs];exact zeroK w
 have hzl:zs.length=128:=by rw [hzs];rfl
 obtain ⟨SR,hSR⟩:∃ x:Array Value,x = #[.string ⟨#[114,111,111,116]⟩, .string ⟨#[115,105,103,110,101,114]⟩, .string ⟨#[100,101,118,105,99,101]⟩, .string ⟨#[107,101,121]⟩]:=⟨_,rfl⟩
 have hnm:∀ j,j < 4→SR[j]? = some (.string (Qe j)):=by rw [hSR];exact nm_row
 have M1:=fun w=>gq seed w hw
 have M2:=fun (j:Nat) sa c w hs ht=>Ha.jw sa (8+(Qe j).size) c (jE seed ++ iq (Qe j)) w hs (Uq _ _) (by have:=WX j;omega) ht
 have hse:∀ j,Ha.hash (jE seed ++ iq (Qe j))=sec seed j:=fun j=>rfl
 have hbl:=iy seed
 have hsb:=fun j=>zF (Qe j)
 have hnl:=WX
 have hsl:=eO seed
 have hkl:=kl_len seed
 have hks:=kl_succ seed
 have hk4:=kl_four seed
 have hgt:=hT.lt
 have hbd:=fun w=>Nv (sec seed 0) (sec seed 1) (sec seed 2) (sec seed 3) (eO _ _) (eO _ _) (eO _ _) (eO _ _) w
 have hsz:=Df (eO seed 0) (eO seed 1) (eO seed 2) (eO seed 3)
 have hpt:=uS (eO seed 0) (eO seed 1) (eO seed 2) (eO seed 3)
 have Qw:(kX (sec seed 0) (sec seed 1) (sec seed 2) (sec seed 3)).all (·.oneCell')=true:=ak _ _
 simp only [hse] at M2
 obtain ⟨b8,CK⟩:∃ x,x=jE seed:=⟨_,rfl⟩
 rw [← CK] at M1 hbl
 simp only [← CK] at M2
 clear hse
 obtain ⟨SC,hSC⟩:∃ x,x=sec seed:=⟨_,rfl⟩
 rw [← hSC] at hsl hks hk4 hbd hsz hpt Qw ⊢
 simp only [← hSC] at M2
 obtain ⟨KL,hKL⟩:∃ x,x=kl seed:=⟨_,rfl⟩
 rw [← hKL] at hkl hks hk4 hk0
 obtain ⟨ST,hST⟩:∃ x,x=kX (SC 0) (SC 1) (SC 2) (SC 3):=⟨_,rfl⟩
 rw [← hST] at hk4 hbd hsz hpt Qw ⊢
 obtain ⟨NM,hNM⟩:∃ x,x=Qe:=⟨_,rfl⟩
 simp only [← hNM] at hnm hsb M2
 rw [← hNM] at hnl
 obtain ⟨w2,hw2⟩:∃ x,x=((w.alloc (.cells (arr .u8 zs) 42)).alloc (.cells SR 9)).alloc (.cells (arr .u8 zs) 97):=⟨_,rfl⟩
 have hr0:w2.heap[w.heap.size]? = some (.cells (arr .u8 zs) 42 (0,0)):=by rw [hw2];exact aY (aY (aH w _) _) _
 have hr1:w2.heap[w.heap.size+1]? = some (.cells SR 9 (0,0)):=by rw [hw2];have:=aY (aH (w.alloc (.cells (arr .u8 zs) 42)) (.cells SR 9)) (.cells (arr .u8 zs) 97);rwa [World.size_alloc] at this
 have hr2:w2.heap[w.heap.size+1+1]? = some (.cells (arr .u8 zs) 97 (0,0)):=by rw [hw2];have:=aH ((w.alloc (.cells (arr .u8 zs) 42)).alloc (.cells SR 9)) (.cells (arr .u8 zs) 97);rwa [World.size_alloc,World.size_alloc] at this
 have hb2:Below w.heap.size w w2:=by rw [hw2];exact (((Below.refl _ w).alloc (abH _) _).alloc (by simp) _).alloc (by simp;omega) _
 have hs2:w.heap.size+1+1 < w2.heap.size:=aV hr2
 rw [hk0] at hr2
 have HZ:=abC hz
 have HZK:=abC hzk
 have uz:=abC hzl
 have Em:=abC M1
 have Ia:=abC M2
 have qM:=abC hbl
 have yM:=abC hsb
 have uL:=abC hnl
 have HSL:=abC hsl
 have lH:=abC hkl
 have HKS:=abC hks
 have rU:=abC hk4
 have HGT:=abC hgt
 have HNM:=abC hnm
 have HBD:=abC hbd
 have Bv:=abC hsz
 have HPT:=abC hpt
 have HSA:=abC Qw
 have Gm:=abC hSR.symm
 have HW2:=abC hw2.symm
 have Cm:=abC hr0
 have HR1:=abC hr1
 have HR2:=abC hr2
 have HB2:=abC hb2
 have UG:=abC hT
 clear hz hzk hzl M1 M2 hbl hsb hnl hsl hkl hks hk4 hgt hnm hbd hsz hpt Qw hSR hw2 hr0 hr1 hr2 hb2 hs2 hT hk0 hzs CK hSC hKL hST hNM hw
 go_enter Tryz.func17, Tryz.ntmps17
 go_wp2_with (first|((with_reducible refine aS 2 ?_);refine ah rfl 42 rfl _ (HZ.out _) ?_)|((with_reducible refine aS 4 ?_);refine ah rfl 97 rfl _ (HZK.out _) ?_;(try simp only [World.size_alloc]);rw [Gm.out,HW2.out]))
 go_loopw [5] (fun i wr=>∃ j:Nat,j≤4∧i = .int .i64 j∧wr.heap[w.heap.size+1+1]? = some (.cells (arr .u8 (KL j)) 97 (0,0))∧Kept (fun x=>x=w.heap.size+1+1) w2 wr) (fun i _=>4 - (intOf i).toNat)
 case atStart=>exact ⟨0,abL _,rfl,HR2.out,Kept.refl _ _⟩
 case round =>
  obtain ⟨j,hj,rfl,hb,hB⟩:=hrel
  have hr1:=hB.blk HR1.out (by omega)
  have hr0:=hB.blk Cm.out (by omega)
  have HR0':=abC hr0
  have yN:=abC hb
  have oK:=abC hB
  by_cases hlt:j < 4
  ·have y0:wr.cell? ⟨w.heap.size+1,j,none⟩=some (.string (NM j)):=(aF hr1 j).trans (HNM.out j hlt)
   have hTr:∀ w',Kept (fun x=>x=w.heap.size+1+1) wr w'→Ha.eP w':=fun w' k=>((Ha.eP.kept UG.out (Kept.of_below (T:=fun _=>False) HB2.out) (fun h=>h)).kept hB (by have:=HGT.out;omega)).kept k (by have:=HGT.out;omega)
   have HTR:=abC hTr
   have HMJ:=abC (fun sa c w hs ht=>Ia.out j sa c w hs ht)
   have HSJ:=abC (HSL.out j)
   have HSBJ:=abC (yM.out j)
   have HNLJ:=abC (uL.out j)
   have HKJ:=abC (lH.out j hj)
   have HKSJ:=abC (HKS.out j hlt)
   have hsq:w.heap.size+1+1 < wr.heap.size:=aV hb
   have HSQ:=abC hsq
   have hlti:(j:Int) < 4:=by omega
   clear hr0 hr1 hb hB hTr hsq
   generalize NM j=nm at y0 HMJ HSBJ HNLJ
   generalize SC j=sc at HMJ HSJ HKSJ
   generalize KL j=klj at yN HKJ HKSJ
   go_upto_region 6 with fail
   have HB0:=abC ((Kept.refl (fun x=>x=w.heap.size+1+1) wr).drew)
   refine wp_region_held_drew (S:=(fun w'=>Kept (fun x=>x=w.heap.size+1+1) wr w')) (by kernel_rfl) (HB0.out) (fun hHeld=>?_)
   refine pT 0 ⟨some 11,_,_,_,_,none⟩ (?v1) ?_
   (try simp only [Act.put,sA,sZ,sS])
   refine pT 1 ⟨some 12,_,_,_,_,none⟩ (?v2) ?_
   (try simp only [Act.put,sA,sZ,sS])
   refine pT 3 ⟨some 14,_,_,_,_,none⟩ (?v3) ?_
   (try simp only [Act.put,sA,sZ,sS])
   refine pT 4 ⟨some 15,_,_,_,_,none⟩ (?v4) ?_
   (try simp only [Act.put,sA,sZ,sS])
   refine pT 5 ⟨some 16,_,_,_,_,none⟩ (?v5) ?_
   (try simp only [Act.put,sA,sZ,sS])
   refine wpAnyH_take (i:=6) (oi:=(⟨some 17,_,_,_,_,none⟩:Oper)) (v:=(.string nm)) rfl (by kernel_rfl) (by kernel_rfl) (by kernel_rfl) (fun _ _ _ h=>h) (Or.inl ⟨by rfl,?hy6⟩) (by assumption) ?rest6
   case hy6=>(intro w hSw;(try dsimp only at hSw);have hx:=hSw.lV y0 (fun e=>absurd e (Nat.ne_of_lt (Nat.lt_succ_self _)));go_simp;try (with_reducible rfl))
   (try simp only [Act.put,sA,sZ,sS])
   refine pR 2 ⟨some 13,_,_,_,_,none⟩ (fun K hK=>?_)
   go_simp
   go_at_call 54
   refine (Em.out _).mono ?_
   rintro e w7 ⟨v2,rfl,ho2,jh⟩
   have fC:=abC (HB0.out.trans (Kept.of_below jh))
   have yN:=abC (Below.blk jh yN.out (aV yN.out))
   have xV:=abC (ho2.mono (B':=wr.heap.size) HB0.out.size)
   obtain ⟨s2,c2,hv2, -⟩:=ho2.form
   rw [qM.out] at hv2
   subst hv2
   clear ho2
   clear jh
   (try dsimp only)
   refine hK.out _ _ (fC.out) (fun hHeld=>?_)
   clear hK K
   (try simp only [Act.put,sA,sZ,sS])
   refine pR 7 ⟨some 18,_,_,_,_,none⟩ (fun K hK=>?_)
   refine Cq rfl (.tmp 13) (.tmp 17) 9 Tryz.underlying9 rfl wr.heap.size (.slice s2 8 c2) b8 nm ?ca1 ?ca2 xV.out (by rw [qM.out];have:=HNLJ.out;omega) fC.out.size ?_
   case ca1=>go_simp
   case ca2=>go_simp
   intro v8 w8 ho8 hg8
   have hbl8:=aZ xV.out hg8 (Below.refl _ _) fC.out.size
   have gu:=abC (fC.out.RP hbl8)
   have yN:=abC (Below.blk hbl8 yN.out HSQ.out)
   obtain ⟨s4,c4,hv4, -, -, hs4, -⟩:=ho8.form
   rw [abR,qM.out,HSBJ.out] at hv4 hs4
   subst hv4
   have H9:=abC hs4
   clear ho8 hg8 hbl8 hs4
   refine hK.out _ _ (gu.out) (fun hHeld=>?_)
   clear hK K
   (try simp only [Act.put])
   refine pR 8 ⟨some 19,_,_,_,_,none⟩ (fun K hK=>?_)
   go_simp
   go_at_call 16
   refine (HMJ.out _ _ _ H9.out (HTR.out _ gu.out)).mono ?_
   rintro e w9 ⟨rfl,dP⟩
   have oN:=abC (gu.out.trans (Kept.of_below dP))
   have yN:=abC (Below.blk dP yN.out (aV yN.out))
   clear dP
   (try dsimp only)
   refine hK.out _ _ (oN.out) (fun hHeld=>?_)
   clear hK K
   (try simp only [Act.put,sA,sZ,sS])
   refine pT 9 ⟨some 20,_,_,_,_,none⟩ ((.pointer (some ⟨w.heap.size+1+1,32 * j,none⟩))) ?_
   (try simp only [Act.put,sA,sZ,sS])
   refine pR 10 ⟨none,_,_,_,_,none⟩ (fun K hK=>?_)
   refine xE rfl 25 (.tmp 20) (.tmp 19) rfl (w.heap.size+1+1) (32 * j) (arr .u8 klj) (arr .u8 sc) 97 yN.out rfl rfl (by rw [aD,aD,HSJ.out,HKJ.out];omega) (by rw [aD,HSJ.out];exact pJ) (ak _ _) ?_
   intro w11 hb11 hk11 hz11
   have HB11:=abC (oN.out.bS hk11 (fun i hi e=>e))
   have hb':=hb11
   rw [HKSJ.out] at hb'
   have HFIN:=abC hb'
   have J2:=HB11
   clear hb11 hk11 hz11 hb'
   refine hK.out _ _ (HB11.out) (fun hHeld=>?_)
   clear hK K
   (try simp only [Act.put])
   refine wpAnyH_done (by kernel_rfl) ?_ _
   (try simp only [Exit.then])
   go_wp2_with fail
   go_roundw
   case rel=>exact ⟨j+1,by omega,by go_num,HFIN.out,oK.out.trans J2.out⟩
   case measure=>simp [intOf];omega
  ·obtain rfl:j=4:=by omega
   clear hr0 hr1 hb hB
   have hbb:=yN.out
   rw [rU.out] at hbb
   have HR4:=abC hbb
   clear hbb yN
   go_wp2_with (first|((with_reducible refine aS 22 ?_);refine aB rfl 25 _ rfl (w.heap.size+1+1) 0 _ 97 (0,0) _ HR4.out rfl .u8 (SC 0) HPT.out.1 Tryz.underlying25 rfl (by rw [HSL.out];exact pJ) ?_)|((with_reducible refine aS 24 ?_);refine aB rfl 25 _ rfl (w.heap.size+1+1) 32 _ 97 (0,0) _ HR4.out rfl .u8 (SC 1) HPT.out.2.1 Tryz.underlying25 rfl (by rw [HSL.out];exact pJ) ?_)|((with_reducible refine aS 26 ?_);refine aB rfl 25 _ rfl (w.heap.size+1+1) 64 _ 97 (0,0) _ HR4.out rfl .u8 (SC 2) HPT.out.2.2.1 Tryz.underlying25 rfl (by rw [HSL.out];exact pJ) ?_)|((with_reducible refine aS 28 ?_);refine aB rfl 25 _ rfl (w.heap.size+1+1) 96 _ 97 (0,0) _ HR4.out rfl .u8 (SC 3) HPT.out.2.2.2 Tryz.underlying25 rfl (by rw [HSL.out];exact pJ) ?_)|((with_reducible refine aS 29 ?_);refine wpList_build rfl 42 _ rfl #[(0, .agg (arr .u8 (SC 0))),(1, .agg (arr .u8 (SC 1))),(2, .agg (arr .u8 (SC 2))),(3, .agg (arr .u8 (SC 3)))] rfl _ (HBD.out _) ?_)|((with_reducible show wpList _ _ _ (Oper.mk none _ _ _ _ _ :: _) _ _);refine au rfl 42 _ _ rfl w.heap.size _ _ 42 HR0'.out rfl rfl (by rw [Bv.out,aD,uz.out]) (by rw [Bv.out];exact DJ) HSA.out ?_;intro w9 dP qI XI;have UM:=abC dP;have oN:=abC ((HB2.out.trans (oK.out.toBelow HB2.out.size (by rintro i rfl;omega))).trans (qI.toBelow (abO HB2.out.size oK.out.size) (by rintro i rfl;exact abH _)));clear dP qI XI))
   (try simp only [Exit.inBlock,Exit.then])
   refine bodyPost_ret (results_cell_row rfl _ _ w.heap.size 42 _ (0,0) _ rfl UM.out Tryz.underlying42 rfl (by rw [Bv.out];exact DJ)) rfl ?_
   exact ⟨rfl,oN.out⟩
end Go.Proofs.YthdgbgleklkaiaaGreatDoor.Ms
namespace Go.Proofs.YthdgbgleklkaiaaGreatDoor.Bk
open Go.RowKit
structure vP (w:World) (p g off c:Nat) (xs:List Int) (k:Nat) (bad:Bool):Prop where
 st:w.heap[p]? = some (.cells #[.slice (some ⟨g,off,none⟩) xs.length c, .int .i64 (k:Int), .bool bad] 86 (0,0))
 src:Src w (some ⟨g,off,none⟩) xs.length xs
 cap:xs.length≤c
 le:k≤xs.length
 ne:g≠p
theorem vP.kept {T:Nat→Prop} {w w':World} {p g off c:Nat} {xs:List Int} {k:Nat} {bad:Bool} (h:vP w p g off c xs k bad) (kk:Kept T w w') (hp:¬ T p) (hg:¬ T g):vP w' p g off c xs k bad :=
 ⟨kk.blk h.st hp,h.src.kept kk (fun a e => .inr (by cases e;exact hg)),h.cap,h.le,h.ne⟩
theorem vP.below {w w':World} {p g off c:Nat} {xs:List Int} {k:Nat} {bad:Bool} (h:vP w p g off c xs k bad) (kk:Below w.heap.size w w'):vP w' p g off c xs k bad:=h.kept (T:=fun _=>False) (Kept.of_below kk) id id
theorem vP.drewN {w:World} {p g off c:Nat} {xs:List Int} {k:Nat} {bad:Bool} (h:vP w p g off c xs k bad) (n:Nat):vP (w.drewN n) p g off c xs k bad:=h.kept (T:=fun _=>False) ((Kept.refl _ w).drewN n) id id
theorem ZF (p g off c:Nat) (xs:List Int) (k:Nat) (bad:Bool) (n:Int) (w:World) (h:vP w p g off c xs k bad) (hl:xs.length≤1099511627776) :
  Calls Tryz.prog 46 #[.pointer (some ⟨p,0,none⟩), .int .i64 n] w fun e w'=>∃ v,e = .returned v∧aU w' w.heap.size v (bX (xs.drop k) bad n)∧vP w' p g off c xs (k+(bX (xs.drop k) bad n).length) (!dR (xs.drop k) bad n)∧Kept (· = p) w w':=by
 have hle:=h.le
 have hd:(xs.drop k).length=xs.length - k:=by simp
 have fin:∀ w',w'.heap[p]? = some (.cells #[.slice (some ⟨g,off,none⟩) xs.length c, .int .i64 (k:Int), .bool true] 86 (0,0))→Kept (· = p) w w'→vP w' p g off c xs k true :=
  fun w' h1 hk=>⟨h1,h.src.kept hk (fun a e => .inr (by cases e;exact h.ne)),h.cap,hle,h.ne⟩
 cases bad with
 | true =>
  refine (JG p _ c xs k n w h.st ⟨by omega,by omega⟩ hl).mono ?_
  rintro e w' ⟨rfl,h1,hk⟩
  exact ⟨_,rfl,aU.nil _ _,fin w' h1 hk,hk⟩
 | false =>
  by_cases hn:n < 0∨(0≤n∧(xs.length:Int) - (k:Int) < n)
  ·have e:dR (xs.drop k) false n=false:=by
    rw [← Bool.not_eq_true,eu,hd]
    omega
   rw [bX,e]
   rcases hn with hn|hn
   ·refine (ZG p _ c xs k n w h.st ⟨by omega,by omega⟩ hl hn).mono ?_
    rintro e w' ⟨rfl,h1,hk⟩
    exact ⟨_,rfl,aU.nil _ _,fin w' h1 hk,hk⟩
   ·refine (DV p _ c xs k n w h.st ⟨by omega,by omega⟩ hl hn).mono ?_
    rintro e w' ⟨rfl,h1,hk⟩
    exact ⟨_,rfl,aU.nil _ _,fin w' h1 hk,hk⟩
  ·obtain ⟨m,rfl⟩:=abW (show 0≤n by omega)
   have e:dR (xs.drop k) false (m:Int)=true:=eu.2 ⟨rfl,by omega,by omega⟩
   rw [bX,e]
   refine (dok_any p g off c k m xs w h.st h.src h.cap (by omega) hl).mono ?_
   rintro e w' ⟨v,rfl,ho,h1,hk⟩
   simp only [if_true,abS,Bool.not_true]
   rw [show k+((xs.drop k).take m).length=k+m by rw [List.length_take,hd];omega]
   exact ⟨v,rfl,ho,⟨h1,h.src.kept hk (fun a e => .inr (by cases e;exact h.ne)),h.cap,by omega,h.ne⟩,hk⟩
def xK (ys:List Int):Nat:=ys.foldl (fun u x=>u * 256+x.toNat) 0
theorem uX (ys:List Int) (j:Nat) (hj:j < ys.length):xK (ys.take (j+1))=xK (ys.take j) * 256+(ys.getD j 0).toNat:=by
 rw [gD ys j 0 hj,xK,abX]
 rfl
theorem Qg (ys:List Int) (hb:bytes ys):∀ j,j≤ys.length→xK (ys.take j) < 256 ^ j
 | 0,_=>by simp [xK]
 | j+1,hj=>by
  have h1:=Qg ys hb j (by omega)
  have h2:=bytes_at hb j
  rw [uX ys j (by omega),Nat.pow_succ]
  omega
theorem or_u64 (u x:Nat) (hu:u < 2 ^ 56) (hx:x < 256):bits .or .u64 (IntKind.u64.wrap ((u:Int) * 256)) (IntKind.u64.wrap (x:Int))=((u * 256+x:Nat):Int):=by
 have e1:IntKind.u64.wrap ((u:Int) * 256)=((u * 256:Nat):Int):=by rw [IntKind.wrap_u64];omega
 have e2:IntKind.u64.wrap (x:Int)=(x:Int):=by rw [IntKind.wrap_u64];omega
 rw [e1,e2]
 show IntKind.u64.wrap ((abE 64 ((u * 256:Nat):Int) ||| abE 64 (x:Int)).toNat:Int)=_
 have hy:x < 2 ^ 8:=hx
 rw [abT,abT,acB,abF,abF,abI (by omega),abI (by omega),show u * 256=2 ^ 8 * u by omega,← acC hy,IntKind.wrap_u64]
 omega
theorem Ec (ys:List Int) (hb:bytes ys):∀ j,j≤ys.length→j≤8→Bp (ys.take j)=(xK (ys.take j):Int)
 | 0,_,_=>rfl
 | j+1,hj,h8=>by
  have h1:=Ec ys hb j (by omega) (by omega)
  have h2:=bytes_at hb j
  have h3:=Qg ys hb j (by omega)
  have hu:xK (ys.take j) < 2 ^ 56:=abY h3 (by
   have:(256:Nat) ^ j≤256 ^ 7:=Nat.pow_le_pow_right (by decide) (by omega)
   exact abO this (by decide))
  obtain ⟨x,hxe⟩:∃ x:Nat,ys.getD j 0=(x:Int):=⟨(ys.getD j 0).toNat,by omega⟩
  rw [vH ys j (by omega),h1,uX ys j (by omega),hxe,abS]
  exact or_u64 _ x hu (by omega)
theorem or_i64 (u x:Nat) (hx:x < 256):bits .or .i64 (wrap64 (wrap64 (u:Int) * 256)) (x:Int)=wrap64 ((u * 256+x:Nat):Int):=by
 have h8:x < 2 ^ 8:=hx
 show IntKind.i64.wrap ((abE 64 (wrap64 (wrap64 (u:Int) * 256)) ||| abE 64 (x:Int)).toNat:Int)=_
 have e1:abE 64 (wrap64 (wrap64 (u:Int) * 256))=BitVec.ofNat 64 (u * 256 % 2 ^ 64):=by
  apply BitVec.eq_of_toNat_eq
  rw [BitVec.toNat_ofInt,abF]
  unfold wrap64
  omega
 have e3:u * 256 % 2 ^ 64=2 ^ 8 * (u % 2 ^ 56):=by omega
 rw [e1,abT,acB,abF,abF,abI (show u * 256 % 2 ^ 64 < 2 ^ 64 by omega),abI (show x < 2 ^ 64 by omega),e3,← acC h8,IntKind.wrap_i64]
 unfold wrap64
 omega
theorem Tt (xs:List Int) (hb:bytes xs) (bad:Bool):mq xs bad=wrap64 (xK (bX xs bad 8):Int):=by
 have h8:(bX xs bad 8).length≤8:=by unfold bX;split <;> simp <;> omega
 have hr:bytes (bX xs bad 8):=by
  unfold bX
  split
  ·exact fun x hx=>hb x (abN hx)
  ·exact fun x hx=>absurd hx (by simp)
 have:=Ec (bX xs bad 8) hr _ (abH _) h8
 rw [List.take_length] at this
 rw [mq,this]
theorem dint_of (p:Nat) (zs:List Int) (bad:Bool) (R:World→Prop) (w:World) (hxd:bytes zs) (Cm:Calls Tryz.prog 46 #[.pointer (some ⟨p,0,none⟩), .int .i64 8] w fun e w'=>∃ v,e = .returned v∧aU w' w.heap.size v (bX zs bad 8)∧R w'∧Kept (· = p) w w') :
  Calls Tryz.prog 47 #[.pointer (some ⟨p,0,none⟩)] w fun e w'=>e = .returned (.int .i64 (mq zs bad))∧R w'∧Kept (· = p) w w':=by
 have HR:=abC Cm
 have HV:=abC (Tt zs hxd bad)
 have h8:(bX zs bad 8).length≤8:=by unfold bX;split <;> simp <;> omega
 have hyb:bytes (bX zs bad 8):=by
  unfold bX
  split
  ·exact fun x hx=>hxd x (abN hx)
  ·exact fun x hx=>absurd hx (by simp)
 have HYB:=abC hyb
 clear Cm hxd hyb
 generalize mq zs bad=iv at HV
 generalize bX zs bad 8=ys at HR HV h8 HYB
 go_enter Tryz.func47, Tryz.ntmps47
 go_upto_region 2 with (go_at_call 46; refine HR.out.mono ?_;rintro e w1 ⟨v1,rfl,ho1,hc1,hk1⟩;have xB:=abC (And.intro hc1 hk1);obtain ⟨s1,c1,rfl,hcc,hm1,hs1, -⟩:=ho1.form;have iY:=abC hs1;clear hc1 hk1 ho1 hs1 hm1)
 go_wp2_with fail
 generalize hln:ys.length=ln
 have JZ:=abC hln
 rw [hln] at iY
 rw [hln] at h8
 clear hln hcc
 go_loopw [4,5] (fun u i wr=>∃ j:Nat,j≤ln∧i = .int .i64 j∧u = .int .i64 (wrap64 (xK (ys.take j):Int))∧wr=w1) (fun _ i _=>ln - (intOf i).toNat)
 case atStart=>exact ⟨0,abL _,rfl,by rw [List.take_zero,show xK []=0 from rfl,show wrap64 ((0:Nat):Int)=0 by simp [wrap64]],rfl⟩
 case round =>
  obtain ⟨j,hj,rfl,rfl,rfl⟩:=hrel
  by_cases hlt:j < ln
  ·obtain ⟨a,rfl,x0⟩:=iY.out.cell j hlt
   have hs:=uX ys j (by rw [JZ.out];exact hlt)
   have hb:=bytes_at HYB.out j
   obtain ⟨x,hxe⟩:∃ x:Nat,ys.getD j 0=(x:Int):=⟨(ys.getD j 0).toNat,by omega⟩
   rw [hxe] at x0 hb hs
   rw [abS] at hs
   generalize hU:xK (ys.take j)=U at hs
   have HO:=abC (or_i64 U x (by omega))
   have HS:=abC hs
   obtain ⟨u,hu⟩:∃ u,u=wrap64 (U:Int):=⟨_,rfl⟩
   rw [← hu] at HO ⊢
   clear hs hxe hU hu
   go_wp2_with fail
   go_roundw
   case rel=>exact ⟨j+1,by omega,by go_num,by rw [HS.out,← HO.out],trivial⟩
   case measure=>simp [intOf];omega
  ·have e:ys.take j=ys:=abM (by rw [JZ.out];omega)
   rw [e]
   have hv:=HV.out
   generalize wrap64 (xK ys:Int)=u at hv
   subst hv
   clear HV
   go_wp2_with fail
   go_ret
   exact ⟨rfl,xB.out⟩
end Go.Proofs.YthdgbgleklkaiaaGreatDoor.Bk
