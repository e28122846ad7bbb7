/- How a manifest's bytes are read, in plain words; The document's Expand. Condition: as each theorem says. -/

import Derived.Test.YthdgbgleklkaiaaGreatDoorQc32
import Derived.Test.YthdgbgleklkaiaaGreatDoorQc34
open Go.Lib renaming hid→abC
open Nat renaming le_refl→abD,le_trans→abE,le_of_lt→abP,lt_of_lt_of_le→abW
open List renaming nil_append→abF,take_of_length_le→abH,mem_cons→abI,mem_append→abJ,length_append→abK,take_append→abM,drop_append→abN,drop_of_length_le→abO,not_mem_nil→abQ,cons_append→abR,length_drop→abS,set_cons_succ→abT,set_append_right→abU,replicate→abV
open Array renaming ext'→abG,toList_setIfInBounds→abL
set_option linter.unusedSimpArgs false
set_option linter.unusedVariables false
set_option maxRecDepth 100000
set_option maxHeartbeats 16000000
namespace Go.Proofs.YthdgbgleklkaiaaGreatDoor.Mf
open Go.RowKit Lm Fp Cu Sl Sc Ce
section
variable {v b i:Int} {ro ks gs ss:List Int} {wv:Value}
theorem Dy (x:Int):(bg v b ro wv i ks gs ss).setIfInBounds 1 (.int .i64 x)=bg v x ro wv i ks gs ss:=by
 apply abG
 rw [abL,bP,bP]
 rfl
theorem rA (h1:ro.length=32) (x:Value):(bg v b ro wv i ks gs ss).setIfInBounds 34 x=bg v b ro x i ks gs ss:=by
 apply abG
 rw [abL,bP,bP]
 simp only [abT]
 rw [abU _ _ (by simp [h1])]
 simp [h1]
theorem zW (h1:ro.length=32) (x:Int):(bg v b ro wv i ks gs ss).setIfInBounds 35 (.int .i64 x)=bg v b ro wv x ks gs ss:=by
 apply abG
 rw [abL,bP,bP]
 simp only [abT]
 rw [abU _ _ (by simp [h1])]
 simp [h1]
theorem Dz {r2:List Int} (h1:ro.length=32) (h2:r2.length=32):((bg v b ro wv i ks gs ss).toList.take 2 ++ (arr .u8 r2).toList ++ (bg v b ro wv i ks gs ss).toList.drop (2+(arr .u8 r2).size)).toArray=bg v b r2 wv i ks gs ss:=by
 apply abG
 simp only [bP,bN,aD,h2]
 simp [h1]
theorem zY {k2:List Int} (h1:ro.length=32) (h2:ks.length=32) (h3:k2.length=32):((bg v b ro wv i ks gs ss).toList.take 36 ++ (arr .u8 k2).toList ++ (bg v b ro wv i ks gs ss).toList.drop (36+(arr .u8 k2).size)).toArray=bg v b ro wv i k2 gs ss:=by
 apply abG
 simp only [bP,bN,aD,h3]
 simp [h1,h2,abM,abN,abH,abO]
theorem zX {g2:List Int} (h1:ro.length=32) (h2:ks.length=32) (h3:gs.length=64) (h4:g2.length=64):((bg v b ro wv i ks gs ss).toList.take 68 ++ (arr .u8 g2).toList ++ (bg v b ro wv i ks gs ss).toList.drop (68+(arr .u8 g2).size)).toArray=bg v b ro wv i ks g2 ss:=by
 apply abG
 simp only [bP,bN,aD,h4]
 simp [h1,h2,h3,abM,abN,abH,abO]
theorem o9 {s2:List Int} (h1:ro.length=32) (h2:ks.length=32) (h3:gs.length=64) (h4:ss.length=64) (h5:s2.length=64):((bg v b ro wv i ks gs ss).toList.take 132 ++ (arr .u8 s2).toList ++ (bg v b ro wv i ks gs ss).toList.drop (132+(arr .u8 s2).size)).toArray=bg v b ro wv i ks gs s2:=by
 apply abG
 simp only [bP,bN,aD,h5]
 simp [h1,h2,h3,h4,abM,abN,abH,abO]
theorem gH (hw:wv.oneCell'=true):(bg v b ro wv i ks gs ss).all (·.oneCell')=true:=by
 rw [Array.all_eq_true_iff_forall_mem]
 intro x hx
 rw [← Array.mem_toList_iff,bP] at hx
 simp only [abI,abJ,List.mem_map] at hx
 rcases hx with rfl|rfl|⟨y, -, rfl⟩|rfl|rfl|⟨y, -, rfl⟩|⟨y, -, rfl⟩|⟨y, -, rfl⟩
 all_goals first|rfl|exact hw
end
def z32:List Int:=abV 32 0
def z64:List Int:=abV 64 0
def gI:Array Value:=bg 0 0 z32 (.slice none 0 0) 0 z32 z64 z64
theorem jS (w:World):(zeroValue 31).run Tryz.prog w = .ok (.agg gI) w:=by kernel_rfl
theorem rJ (w:World):(Instr.build 31 #[]).run Tryz.prog w = .ok (.agg gI) w:=by kernel_rfl
theorem Nz (v:Int) (w:World):(Instr.build 31 #[(0, .int .i64 v)]).run Tryz.prog w = .ok (.agg (bg v 0 z32 (.slice none 0 0) 0 z32 z64 z64)) w:=by kernel_rfl
theorem dU:(Tryz.prog.info? 31).map (·.size)=some 196:=by kernel_rfl
def st (n:Int) (c:List Int×Bool):List Int×Bool:=(mP c.1 c.2 n, !dR c.1 c.2 n)
def Cv (xs:List Int):=st 4 (xs,false)
def mU (xs:List Int):=st 8 (Cv xs)
def Dx (xs:List Int):=st 8 (mU xs)
def yB (xs:List Int):=st 32 (Dx xs)
def Dw (xs:List Int):=st 80 (yB xs)
def Dv (xs:List Int):=st 8 (Dw xs)
def su (xs:List Int):=st 32 (Dv xs)
def tJ (xs:List Int):=st 64 (su xs)
def Tf (xs:List Int):=st 64 (tJ xs)
def fH (xs:List Int):List Int:=bX xs false 4
def fv (xs:List Int):Int:=mq (Cv xs).1 (Cv xs).2
def fb (xs:List Int):Int:=mq (mU xs).1 (mU xs).2
def tY (xs:List Int):List Int:=jL (Dx xs).1 (Dx xs).2 32
def fws (xs:List Int):List Int:=bX (yB xs).1 (yB xs).2 80
def fi (xs:List Int):Int:=mq (Dw xs).1 (Dw xs).2
def sF (xs:List Int):List Int:=jL (Dv xs).1 (Dv xs).2 32
def sG (xs:List Int):List Int:=jL (su xs).1 (su xs).2 64
def sD (xs:List Int):List Int:=jL (tJ xs).1 (tJ xs).2 64
def fE (xs:List Int):Bool := !(Tf xs).2 && decide ((Tf xs).1.length=0)
def F5 (xs:List Int):Bool:=fE xs && decide (fH xs=[80,67,77,49]) && iA (fv xs) (fb xs) (fws xs).length (fi xs)
theorem nJ (n:Int) (c:List Int×Bool):(st n c).1.length≤c.1.length:=raw_len _ _ _
theorem st_ne {n:Int} {c:List Int×Bool} (h:(st n c).1≠[]):c.1≠[]:=fun e=>h (by
 have h1:=nJ n c
 rw [e] at h1
 exact List.eq_nil_of_length_eq_zero (by simpa using h1))
theorem mc_len (xs:List Int):(Cv xs).1.length≤xs.length∧(mU xs).1.length≤xs.length∧(Dx xs).1.length≤xs.length∧(yB xs).1.length≤xs.length∧(Dw xs).1.length≤xs.length∧(Dv xs).1.length≤xs.length∧(su xs).1.length≤xs.length∧(tJ xs).1.length≤xs.length:=by
 have h1:(Cv xs).1.length≤xs.length:=nJ 4 (xs,false)
 have h2:(mU xs).1.length≤_:=nJ 8 (Cv xs)
 have h3:(Dx xs).1.length≤_:=nJ 8 (mU xs)
 have h4:(yB xs).1.length≤_:=nJ 32 (Dx xs)
 have h5:(Dw xs).1.length≤_:=nJ 80 (yB xs)
 have h6:(Dv xs).1.length≤_:=nJ 8 (Dw xs)
 have h7:(su xs).1.length≤_:=nJ 32 (Dv xs)
 have h8:(tJ xs).1.length≤_:=nJ 64 (su xs)
 omega
theorem VP:strOfNums [80,67,77,49]=⟨#[80,67,77,49]⟩:=by rfl
theorem QO:(⟨#[80,67,77,49]⟩:ByteArray).toList=[80,67,77,49]:=by decide +kernel
structure qU (w u:World) (xs:List Int) (g6:Nat) (M:Array Value) (c:List Int×Bool) (p q:Nat):Prop where
 i:u.heap[w.heap.size]? = some (.cells gI 31 (0,0))
 m:u.heap[g6]? = some (.cells M 31 (0,0))
 cu:dS u p q c.1 c.2
 n1:w.heap.size≠p
 n2:g6≠p
 n3:w.heap.size < g6
 n4:w.heap.size≤p
 nq:xs≠[]→q≠g6
 le:c.1≠[]→xs≠[]
 b:Below w.heap.size w u
theorem qU.turn {w u u':World} {xs:List Int} {g6 p q:Nat} {M:Array Value} {c:List Int×Bool} {n:Int} (h:qU w u xs g6 M c p q) (k:Kept (· = p) u u') (hc:dS u' p q (st n c).1 (st n c).2):qU w u' xs g6 M (st n c) p q :=
 ⟨k.blk h.i h.n1,k.blk h.m h.n2,hc,h.n1,h.n2,h.n3,h.n4,h.nq,fun e=>h.le (st_ne e),h.b.trans ⟨k.os,k.tape,k.output,k.size,fun j hj=>k.block j (abW hj h.b.size) (by have:=h.n4;omega)⟩⟩
theorem qU.put {w u u':World} {xs:List Int} {g6 p q:Nat} {M M':Array Value} {c:List Int×Bool} (h:qU w u xs g6 M c p q) (k:Kept (fun x=>x=g6) u u') (hm:u'.heap[g6]? = some (.cells M' 31 (0,0))):qU w u' xs g6 M' c p q :=
 ⟨k.blk h.i (by have:=h.n3;omega),hm,h.cu.Jd k (fun e=>h.n2 e.symm) (fun hz e=>h.nq (h.le hz) e),h.n1,h.n2,h.n3,h.n4,h.nq,h.le,h.b.trans ⟨k.os,k.tape,k.output,k.size,fun j hj=>k.block j (abW hj h.b.size) (by have:=h.n3;omega)⟩⟩
theorem qU.set {w u:World} {xs:List Int} {g6 p q:Nat} {M:Array Value} {c:List Int×Bool} (h:qU w u xs g6 M c p q) (o:Nat) (x:Value):qU w (u.setCell ⟨g6,o,none⟩ x) xs g6 (M.setIfInBounds o x) c p q :=
 h.put ((Kept.refl _ u).at o x) (aQ h.m x)
theorem qU.fresh {w u u':World} {xs:List Int} {g6 p q:Nat} {M:Array Value} {c:List Int×Bool} (h:qU w u xs g6 M c p q) (k:Below u.heap.size u u'):qU w u' xs g6 M c p q :=
 ⟨Below.blk k h.i (aV h.i),Below.blk k h.m (aV h.m),h.cu.below k,h.n1,h.n2,h.n3,h.n4,h.nq,h.le,h.b.trans (k.mono h.b.size)⟩
end Go.Proofs.YthdgbgleklkaiaaGreatDoor.Mf
namespace Go.Proofs.YthdgbgleklkaiaaGreatDoor.Wr
open Go.RowKit Lm Cu Sl
theorem bO.grown {w wr w':World} {l:List (Nat×Array Value×TypeId)} {r:Option Nat} (h:bO w wr l) (hg:wr.grownBy w' r) (hne:∀ e∈l,some e.1≠r) (hb:Below w.heap.size w w'):bO w w' l:=by
 refine ⟨fun i g c t hi=>?_,h.inj,hb⟩
 obtain ⟨h1,h2⟩:=h.mem i g c t hi
 refine ⟨?_,h2⟩
 rw [hg.block g (h.lt i hi) (hne _ (List.mem_of_getElem? hi))]
 exact h1
theorem IK (key info:List Int) (a2:Addr) (nb cb:Nat) (w:World) (hkl:key.length=32) (hb:bytes key) (hB:Src w (some a2) nb info) (bB:bytes info) (hN:nb≤1000000) (hk:Ha.eP w) :
  Calls Tryz.prog 137 #[.agg (arr .u8 key), .slice (some a2) nb cb, .int .i64 32] w fun e w'=>∃ v,e = .returned v∧aU w' w.heap.size v (Lg key (info ++ [1]))∧Below w.heap.size w w':=by
 have hl:=hB.len
 have hms:=fun (g:Addr) (s:Addr) (c:Nat) (u:World) (h1:Src u (some g) 32 key) (h2:Src u (some s) (nb+1) (info ++ [1])) (h3:Ha.eP u)=>IJ key (info ++ [1]) g 32 32 s (nb+1) c u h1 hb (by decide) h2 (jk bB (by intro x hx;simp only [List.mem_singleton] at hx;subst hx;decide)) (by omega) (by omega) h3
 obtain ⟨h1,yG⟩:∃ x,x=Lg key (info ++ [1]):=⟨_,rfl⟩
 rw [← yG] at hms ⊢
 have xA:Hid (h1.length=32):=abC (by rw [yG];exact FK _ _)
 have Gs:=abC hms
 have HS:=abC hB
 have vV:=abC hk
 have lH:=abC hkl
 have HL:=abC hl
 have Q8:=abC hN
 obtain ⟨zn,hzn,dB,dw⟩:=zN zero_num
 have HI0:=abC (bO.one w (arr .u8 key) 25)
 clear yG hms hB hzn hb bB hN hk hkl hl
 go_enter Tryz.func137, Tryz.ntmps137
 go_wp2_with fail
 go_loopw [7,8,9] (fun v7 v8 v9 wr=>(v9 = .int .i64 1∧v7 = .slice none 0 0∧v8 = .slice none 0 0∧bO w wr [(w.heap.size,arr .u8 key, 25)])∨(v9 = .int .i64 2∧aU wr w.heap.size v7 h1∧Below w.heap.size w wr)) (fun _ _ v9 _=>(3 - intOf v9).toNat)
 case atStart=>exact Or.inl ⟨rfl,rfl,rfl,HI0.out⟩
 clear HI0
 case round =>
 rcases hrel with ⟨rfl,rfl,rfl,hB⟩|⟨rfl,ho,hbl⟩
 rotate_left
 ·have hq:=ho.form
  obtain ⟨sa,c,rfl,hcc,hcm,hsr,hor⟩:=hq
  rw [xA.out] at hcc hsr ⊢
  have Gm:=abC hsr
  have qM:=abC hbl
  have hc1:¬ (c:Int) < 32:=by omega
  have hsa:∃ g,sa=some ⟨g,0,none⟩:=by
   rcases hor with ⟨-, h0, -⟩|⟨g,rfl, -, -⟩
   ·have:=xA.out
    rw [h0] at this
    exact absurd this (by decide)
   ·exact ⟨g,rfl⟩
  obtain ⟨g,rfl⟩:=hsa
  clear ho hsr hbl hcm hor
  go_wp2_with (first|((with_reducible refine aS 38 ?_);refine aX rfl (.const (.slice none 0 0)) (.tmp 37) rfl wr.heap.size _ [] rfl (aU.nil _ _) _ 32 c h1 rfl Gm.out (by decide) (abD _) ?_;rw [abF];intro v9 w9 how hgr _ _;have dP:=aZ (aU.nil wr wr.heap.size) hgr (Below.refl _ _) (abD _);have HO9:=abC (how.mono qM.out.size);have oN:=abC (qM.out.trans (dP.mono qM.out.size));clear how hgr dP))
  (try simp only [Exit.then])
  go_ret
  exact ⟨v9,rfl,HO9.out,oN.out⟩
 have HB:=abC hB
 clear hB
 go_upto_region 7 with (first|((with_reducible refine aS 19 ?_);refine aX rfl (.const (.slice none 0 0)) (.tmp 18) rfl wr.heap.size _ [] rfl (aU.nil _ _) none 0 0 [] rfl ⟨rfl,fun i hi=>absurd hi (by simp)⟩ (by decide) (abD _) ?_;intro vz wz how hgr hnn _;obtain rfl:=hnn.2 ⟨rfl,rfl⟩;have hbz:=aZ (aU.nil wr wr.heap.size) hgr (Below.refl _ _) (abD _);have HIz:=abC (HB.out.kept hbz);have Bv:=abC hbz.size;clear how hgr hbz)|((with_reducible refine aS 21 ?_);refine aX rfl (.tmp 19) (.tmp 20) rfl wz.heap.size _ [] rfl (aU.nil _ _) (some a2) nb cb info rfl (HS.out.below HIz.out.below) (by have:=Q8.out;simp;omega) (abD _) ?_;rw [abF];intro vb wb how hgr _ _;have hbb:=aZ (aU.nil wz wz.heap.size) hgr (Below.refl _ _) (abD _);have HI1:=abC (HIz.out.kept hbb);have HOB:=abC how;have HWZ:=abC (show wz.heap.size≤wb.heap.size from hbb.size);have HKZ:=abC (HIz.out.lt 0 rfl);clear how hgr hbb))
 (try simp only [World.size_alloc,Act.put,sA,sZ,sS])
 refine wp_region_held_drew (S:=fun _=>True) (by kernel_rfl) trivial (fun hHeld=>?_)
 have eF:=abC (HI1.out.drew)
 have HOd:Hid (aU wb.drew wz.heap.size vb info):=abC HOB.out.drew
 have HWd:Hid (wz.heap.size≤wb.drew.heap.size):=HWZ
 generalize wb.drew=wd at eF HOd HWd ⊢
 refine wpAnyH_take (i:=0) (oi:=(⟨some 22,_,_,_,_,none⟩:Oper)) (v := .slice (some ⟨w.heap.size,0,none⟩) 32 32) rfl (by kernel_rfl) (by kernel_rfl) (by kernel_rfl) (fun _ _ _ h=>h) (Or.inl ⟨by rfl,?hy6701⟩) trivial ?rest6701
 case hy6701=>(intro w _;(try dsimp only);go_simp;try (with_reducible rfl))
 (try simp only [Act.put,sA,sZ,sS])
 refine wpAnyH_take (i:=1) (oi:=(⟨some 23,_,_,_,_,none⟩:Oper)) (v:=vb) rfl (by kernel_rfl) (by kernel_rfl) (by kernel_rfl) (fun _ _ _ h=>h) (Or.inl ⟨by rfl,?hy6702⟩) trivial ?rest6702
 case hy6702=>(intro w _;(try dsimp only);first|rfl|kernel_rfl)
 (try simp only [Act.put,sA,sZ,sS])
 refine wpAnyH_take (i:=2) (oi:=(⟨some 24,_,_,_,_,none⟩:Oper)) (v := .int .i64 1) rfl (by kernel_rfl) (by kernel_rfl) (by kernel_rfl) (fun _ _ _ h=>h) (Or.inl ⟨by rfl,?hy6703⟩) trivial ?rest6703
 case hy6703=>(intro w _;(try dsimp only);first|rfl|kernel_rfl)
 (try simp only [Act.put,sA,sZ,sS])
 refine wpAnyH_take (i:=3) (oi:=(⟨some 25,_,_,_,_,none⟩:Oper)) (v := .int .i64 1) rfl (by kernel_rfl) (by kernel_rfl) (by kernel_rfl) (fun _ _ _ h=>h) (Or.inl ⟨by rfl,?hy6704⟩) trivial ?rest6704
 case hy6704=>(intro w _;(try dsimp only);first|rfl|kernel_rfl|(go_simp;done))
 (try simp only [Act.put,sA,sZ,sS])
 refine wpAnyH_take (i:=4) (oi:=(⟨some 26,_,_,_,_,none⟩:Oper)) (v := .int .u8 1) rfl (by kernel_rfl) (by kernel_rfl) (by kernel_rfl) (fun _ _ _ h=>h) (Or.inl ⟨by rfl,?hy6705⟩) trivial ?rest6705
 case hy6705=>(intro w _;(try dsimp only);first|rfl|kernel_rfl|(go_simp;done))
 (try simp only [Act.put,sA,sZ,sS])
 refine wpAnyH_ready (rs:=[5,8]) (by kernel_rfl) (by simp) ?_
 refine AllReadyH.cons (o:=(⟨some 27,_,_,_,_,none⟩:Oper)) rfl (fun K hK=>?_) ?_
 ·go_simp
  have HY1:=abC (eF.out.alloc (arr .u8 [1]) 5)
  have UQ:=abC (HOd.out.alloc (.cells (arr .u8 [1]) 5))
  have HW1:Hid (wz.heap.size≤(wd.alloc (.cells (arr .u8 [1]) 5)).heap.size):=abC (abE HWd.out (by simp))
  have rV:Hid (∀ k,vb.ownBlock=some k→k < wd.heap.size):=abC (fun k h=>(HOd.out.lt k h).2)
  rw [show (#[.int .u8 1]:Array Value)=arr .u8 [1] from rfl]
  generalize wd.heap.size=gk at HY1 rV ⊢
  generalize wd.alloc (.cells (arr .u8 [1]) 5)=y1 at HY1 UQ HW1 ⊢
  refine hK.out _ _ trivial (fun _=>?_)
  clear hK K
  (try simp only [Act.put,sA,sZ,sS])
  refine wpAnyH_ready (rs:=[6,8]) (by kernel_rfl) (by simp) ?_
  refine AllReadyH.cons (o:=(⟨some 28,_,_,_,_,none⟩:Oper)) rfl (fun K hK=>?_) ?_
  ·refine fM rfl (.tmp 23) (.tmp 27) rfl wz.heap.size vb info rfl UQ.out _ 1 1 [1] rfl (bQ (HY1.out.get 1 rfl) 1 rfl) (by have:=HL.out;have:=Q8.out;omega) HW1.out ?_
   intro v2 y2 how hgr _ _
   have hbe:Below w.heap.size w y2:=aZ (UQ.out.mono (abE (abP HKZ.out) (abD _))) hgr HY1.out.below HY1.out.below.size
   have HY2:=abC (bO.grown HY1.out hgr (by
    intro e he
    simp only [abJ,abI,abQ,or_false,abR,abF] at he
    intro e2
    have hlt:=UQ.out.lt e.1 e2.symm
    have hkz:=HKZ.out
    have hgk:=rV.out e.1 e2.symm
    rcases he with rfl|rfl <;> simp only at hlt hkz hgk <;> omega) hbe)
   have HO2_:=abC how
   have HW2:Hid (wz.heap.size≤y2.heap.size):=abC (abE HW1.out hgr.size)
   clear how hgr hbe
   refine hK.out _ _ trivial (fun _=>?_)
   clear hK K
   (try simp only [Act.put,sA,sZ,sS])
   refine wpAnyH_ready (rs:=[7,8]) (by kernel_rfl) (by simp) ?_
   refine AllReadyH.cons (o:=(⟨some 29,_,_,_,_,none⟩:Oper)) rfl (fun K hK=>?_) ?_
   ·have hfm:=HO2_.out.form
    obtain ⟨sm,cm,rfl, -, -, hsm,X0⟩:=hfm
    obtain ⟨gm,rfl⟩:∃ g,sm=some ⟨g,0,none⟩:=by
     rcases X0 with ⟨-, h0, -⟩|⟨g,rfl, -, -⟩
     ·exact absurd h0 (by simp)
     ·exact ⟨g,rfl⟩
    rw [abK,HL.out,show ([1]:List Int).length=1 from rfl] at hsm ⊢
    go_simp
    go_at_call 184
    refine (Gs.out _ _ _ _ (bQ (HY2.out.get 0 rfl) 32 lH.out) hsm (dJ vV.out HY2.out.below)).mono ?_
    rintro e y3 ⟨rfl,dP⟩
    have HY3:=abC (HY2.out.kept dP)
    have HO3_:=abC (HO2_.out.below dP)
    have HW3:Hid (wz.heap.size≤y3.heap.size):=abC (abE HW2.out dP.size)
    clear dP hsm X0
    (try dsimp only)
    refine hK.out _ _ trivial (fun _=>?_)
    clear hK K
    (try simp only [Act.put,sA,sZ,sS])
    refine pR 8 ⟨some 11,_,_,_,_,none⟩ (fun K hK=>?_)
    refine bA rfl 25 rfl _ (dB.out _) ?_
    have HY4:=abC (HY3.out.alloc (arr .u8 zn) 25)
    have HO4_:=abC (HO3_.out.alloc (.cells (arr .u8 zn) 25))
    have HW4:Hid (wz.heap.size≤(y3.alloc (.cells (arr .u8 zn) 25)).heap.size):=abC (abE HW3.out (by simp))
    generalize y3.heap.size=g11 at HY4 ⊢
    generalize y3.alloc (.cells (arr .u8 zn) 25)=y4 at HY4 HO4_ HW4 ⊢
    refine hK.out _ _ trivial (fun _=>?_)
    clear hK K
    (try simp only [Act.put,sA,sZ,sS])
    refine pR 9 ⟨none,_,_,_,_,none⟩ (fun K hK=>?_)
    refine aI rfl 25 (.tmp 11) (.tmp 29) rfl g11 _ _ 25 (HY4.out.get 2 rfl) rfl rfl (av _ _ xA.out dw.out) (bG xA.out) (ak _ _) ?_
    intro y5 dP qI XI
    have HY5:=abC (HY4.out.put 2 rfl qI dP)
    clear dP qI XI
    refine hK.out _ _ trivial (fun _=>?_)
    clear hK K
    (try simp only [Act.put,sA,sZ,sS])
    refine wpAnyH_done (by kernel_rfl) ?_ _
    (try simp only [Exit.then])
    go_wp2_with (first|((with_reducible refine aS 31 ?_);refine aX rfl (.const (.slice none 0 0)) (.tmp 30) rfl (y5).heap.size _ [] rfl (aU.nil _ _) _ 32 32 h1 rfl (bQ (HY5.out.get 2 rfl) 32 xA.out) (by decide) (abD _) ?_;rw [abF];intro vt wt how hgr _ _;have hbt:=aZ (aU.nil (y5) (y5).heap.size) hgr (Below.refl _ _) (abD _);have HIt:=abC (HY5.out.kept hbt);have HOT:=abC how;clear how hgr hbt)|((with_reducible refine aS 34 ?_);obtain ⟨st_,ct_,rfl, -, -, hst, -⟩:=HOT.out.form;refine aX rfl (.tmp 32) (.tmp 33) rfl wt.heap.size _ [] rfl (aU.nil _ _) st_ _ ct_ h1 rfl hst (by rw [xA.out];decide) (abD _) ?_;rw [abF];intro v7 w7 how hgr _ _;have jh:=aZ (aU.nil wt wt.heap.size) hgr (Below.refl _ _) (abD _);have HO7:=abC (how.mono HIt.out.below.size);have fC:=abC (HIt.out.kept jh).below;clear how hgr jh hst))
    go_roundw
    case rel=>exact Or.inr ⟨rfl,HO7.out,fC.out⟩
    case measure=>simp [intOf]
   refine AllReadyH.cons (o:=(⟨some 11,_,_,_,_,none⟩:Oper)) rfl (fun K hK=>?_) AllReadyH.nil
   refine bA rfl 25 rfl _ (dB.out _) ?_
   have HY6:=abC (HY2.out.alloc (arr .u8 zn) 25)
   have HO6_:=abC (HO2_.out.alloc (.cells (arr .u8 zn) 25))
   have UF:Hid (wz.heap.size≤(y2.alloc (.cells (arr .u8 zn) 25)).heap.size):=abC (abE HW2.out (by simp))
   generalize y2.heap.size=g11 at HY6 ⊢
   generalize y2.alloc (.cells (arr .u8 zn) 25)=y6 at HY6 HO6_ UF ⊢
   refine hK.out _ _ trivial (fun _=>?_)
   clear hK K
   (try simp only [Act.put,sA,sZ,sS])
   refine pR 7 ⟨some 29,_,_,_,_,none⟩ (fun K hK=>?_)
   have hfm:=HO6_.out.form
   obtain ⟨sm,cm,rfl, -, -, hsm,X0⟩:=hfm
   obtain ⟨gm,rfl⟩:∃ g,sm=some ⟨g,0,none⟩:=by
    rcases X0 with ⟨-, h0, -⟩|⟨g,rfl, -, -⟩
    ·exact absurd h0 (by simp)
    ·exact ⟨g,rfl⟩
   rw [abK,HL.out,show ([1]:List Int).length=1 from rfl] at hsm ⊢
   go_simp
   go_at_call 184
   refine (Gs.out _ _ _ _ (bQ (HY6.out.get 0 rfl) 32 lH.out) hsm (dJ vV.out HY6.out.below)).mono ?_
   rintro e y7 ⟨rfl,dP⟩
   have HY7:=abC (HY6.out.kept dP)
   have HO7_:=abC (HO6_.out.below dP)
   have HW7:Hid (wz.heap.size≤y7.heap.size):=abC (abE UF.out dP.size)
   clear dP hsm X0
   (try dsimp only)
   refine hK.out _ _ trivial (fun _=>?_)
   clear hK K
   (try simp only [Act.put,sA,sZ,sS])
   refine pR 9 ⟨none,_,_,_,_,none⟩ (fun K hK=>?_)
   refine aI rfl 25 (.tmp 11) (.tmp 29) rfl g11 _ _ 25 (HY7.out.get 2 rfl) rfl rfl (av _ _ xA.out dw.out) (bG xA.out) (ak _ _) ?_
   intro y8 dP qI XI
   have HY8:=abC (HY7.out.put 2 rfl qI dP)
   clear dP qI XI
   refine hK.out _ _ trivial (fun _=>?_)
   clear hK K
   (try simp only [Act.put,sA,sZ,sS])
   refine wpAnyH_done (by kernel_rfl) ?_ _
   (try simp only [Exit.then])
   go_wp2_with (first|((with_reducible refine aS 31 ?_);refine aX rfl (.const (.slice none 0 0)) (.tmp 30) rfl (y8).heap.size _ [] rfl (aU.nil _ _) _ 32 32 h1 rfl (bQ (HY8.out.get 2 rfl) 32 xA.out) (by decide) (abD _) ?_;rw [abF];intro vt wt how hgr _ _;have hbt:=aZ (aU.nil (y8) (y8).heap.size) hgr (Below.refl _ _) (abD _);have HIt:=abC (HY8.out.kept hbt);have HOT:=abC how;clear how hgr hbt)|((with_reducible refine aS 34 ?_);obtain ⟨st_,ct_,rfl, -, -, hst, -⟩:=HOT.out.form;refine aX rfl (.tmp 32) (.tmp 33) rfl wt.heap.size _ [] rfl (aU.nil _ _) st_ _ ct_ h1 rfl hst (by rw [xA.out];decide) (abD _) ?_;rw [abF];intro v7 w7 how hgr _ _;have jh:=aZ (aU.nil wt wt.heap.size) hgr (Below.refl _ _) (abD _);have HO7:=abC (how.mono HIt.out.below.size);have fC:=abC (HIt.out.kept jh).below;clear how hgr jh hst))
   go_roundw
   case rel=>exact Or.inr ⟨rfl,HO7.out,fC.out⟩
   case measure=>simp [intOf]
  refine AllReadyH.cons (o:=(⟨some 11,_,_,_,_,none⟩:Oper)) rfl (fun K hK=>?_) AllReadyH.nil
  refine bA rfl 25 rfl _ (dB.out _) ?_
  have HY9:=abC (HY1.out.alloc (arr .u8 zn) 25)
  have HO9_:=abC (UQ.out.alloc (.cells (arr .u8 zn) 25))
  have Ak:Hid (wz.heap.size≤(y1.alloc (.cells (arr .u8 zn) 25)).heap.size):=abC (abE HW1.out (by simp))
  have HG9:Hid (∀ k,vb.ownBlock=some k→k < y1.heap.size):=abC (fun k h=>(UQ.out.lt k h).2)
  generalize y1.heap.size=g11 at HY9 HG9 ⊢
  generalize y1.alloc (.cells (arr .u8 zn) 25)=y9 at HY9 HO9_ Ak ⊢
  refine hK.out _ _ trivial (fun _=>?_)
  clear hK K
  (try simp only [Act.put,sA,sZ,sS])
  refine pR 6 ⟨some 28,_,_,_,_,none⟩ (fun K hK=>?_)
  refine fM rfl (.tmp 23) (.tmp 27) rfl wz.heap.size vb info rfl HO9_.out _ 1 1 [1] rfl (bQ (HY9.out.get 1 rfl) 1 rfl) (by have:=HL.out;have:=Q8.out;omega) Ak.out ?_
  intro v2 y10 how hgr _ _
  have hbe:Below w.heap.size w y10:=aZ (HO9_.out.mono (abE (abP HKZ.out) (abD _))) hgr HY9.out.below HY9.out.below.size
  have HY10:=abC (bO.grown HY9.out hgr (by
   intro e he
   simp only [abJ,abI,abQ,or_false,abR,abF] at he
   intro e2
   have hlt:=HO9_.out.lt e.1 e2.symm
   have hkz:=HKZ.out
   have hgk:=rV.out e.1 e2.symm
   have hg11:=HG9.out e.1 e2.symm
   rcases he with rfl|rfl|rfl <;> simp only at hlt hkz hgk hg11 <;> omega) hbe)
  have HO10_:=abC how
  have Bu:Hid (wz.heap.size≤y10.heap.size):=abC (abE Ak.out hgr.size)
  clear how hgr hbe
  refine hK.out _ _ trivial (fun _=>?_)
  clear hK K
  (try simp only [Act.put,sA,sZ,sS])
  refine pR 7 ⟨some 29,_,_,_,_,none⟩ (fun K hK=>?_)
  have hfm:=HO10_.out.form
  obtain ⟨sm,cm,rfl, -, -, hsm,X0⟩:=hfm
  obtain ⟨gm,rfl⟩:∃ g,sm=some ⟨g,0,none⟩:=by
   rcases X0 with ⟨-, h0, -⟩|⟨g,rfl, -, -⟩
   ·exact absurd h0 (by simp)
   ·exact ⟨g,rfl⟩
  rw [abK,HL.out,show ([1]:List Int).length=1 from rfl] at hsm ⊢
  go_simp
  go_at_call 184
  refine (Gs.out _ _ _ _ (bQ (HY10.out.get 0 rfl) 32 lH.out) hsm (dJ vV.out HY10.out.below)).mono ?_
  rintro e y11 ⟨rfl,dP⟩
  have HY11:=abC (HY10.out.kept dP)
  have HO11_:=abC (HO10_.out.below dP)
  have HW11:Hid (wz.heap.size≤y11.heap.size):=abC (abE Bu.out dP.size)
  clear dP hsm X0
  (try dsimp only)
  refine hK.out _ _ trivial (fun _=>?_)
  clear hK K
  (try simp only [Act.put,sA,sZ,sS])
  refine pR 9 ⟨none,_,_,_,_,none⟩ (fun K hK=>?_)
  refine aI rfl 25 (.tmp 11) (.tmp 29) rfl g11 _ _ 25 (HY11.out.get 2 rfl) rfl rfl (av _ _ xA.out dw.out) (bG xA.out) (ak _ _) ?_
  intro y12 dP qI XI
  have HY12:=abC (HY11.out.put 2 rfl qI dP)
  clear dP qI XI
  refine hK.out _ _ trivial (fun _=>?_)
  clear hK K
  (try simp only [Act.put,sA,sZ,sS])
  refine wpAnyH_done (by kernel_rfl) ?_ _
  (try simp only [Exit.then])
  go_wp2_with (first|((with_reducible refine aS 31 ?_);refine aX rfl (.const (.slice none 0 0)) (.tmp 30) rfl (y12).heap.size _ [] rfl (aU.nil _ _) _ 32 32 h1 rfl (bQ (HY12.out.get 2 rfl) 32 xA.out) (by decide) (abD _) ?_;rw [abF];intro vt wt how hgr _ _;have hbt:=aZ (aU.nil (y12) (y12).heap.size) hgr (Below.refl _ _) (abD _);have HIt:=abC (HY12.out.kept hbt);have HOT:=abC how;clear how hgr hbt)|((with_reducible refine aS 34 ?_);obtain ⟨st_,ct_,rfl, -, -, hst, -⟩:=HOT.out.form;refine aX rfl (.tmp 32) (.tmp 33) rfl wt.heap.size _ [] rfl (aU.nil _ _) st_ _ ct_ h1 rfl hst (by rw [xA.out];decide) (abD _) ?_;rw [abF];intro v7 w7 how hgr _ _;have jh:=aZ (aU.nil wt wt.heap.size) hgr (Below.refl _ _) (abD _);have HO7:=abC (how.mono HIt.out.below.size);have fC:=abC (HIt.out.kept jh).below;clear how hgr jh hst))
  go_roundw
  case rel=>exact Or.inr ⟨rfl,HO7.out,fC.out⟩
  case measure=>simp [intOf]
 refine AllReadyH.cons (o:=(⟨some 11,_,_,_,_,none⟩:Oper)) rfl (fun K hK=>?_) AllReadyH.nil
 refine bA rfl 25 rfl _ (dB.out _) ?_
 have HY13:=abC (eF.out.alloc (arr .u8 zn) 25)
 have Az:=abC (HOd.out.alloc (.cells (arr .u8 zn) 25))
 have HW13:Hid (wz.heap.size≤(wd.alloc (.cells (arr .u8 zn) 25)).heap.size):=abC (abE HWd.out (by simp))
 have HG13:Hid (∀ k,vb.ownBlock=some k→k < wd.heap.size):=abC (fun k h=>(HOd.out.lt k h).2)
 generalize wd.heap.size=g11 at HY13 HG13 ⊢
 generalize wd.alloc (.cells (arr .u8 zn) 25)=y13 at HY13 Az HW13 ⊢
 refine hK.out _ _ trivial (fun _=>?_)
 clear hK K
 (try simp only [Act.put,sA,sZ,sS])
 refine pR 5 ⟨some 27,_,_,_,_,none⟩ (fun K hK=>?_)
 go_simp
 have UE:=abC (HY13.out.alloc (arr .u8 [1]) 5)
 have Q7:=abC (Az.out.alloc (.cells (arr .u8 [1]) 5))
 have HW14:Hid (wz.heap.size≤(y13.alloc (.cells (arr .u8 [1]) 5)).heap.size):=abC (abE HW13.out (by simp))
 have HG14:Hid (∀ k,vb.ownBlock=some k→k < y13.heap.size):=abC (fun k h=>(Az.out.lt k h).2)
 rw [show (#[.int .u8 1]:Array Value)=arr .u8 [1] from rfl]
 generalize y13.heap.size=gk at UE HG14 ⊢
 generalize y13.alloc (.cells (arr .u8 [1]) 5)=y14 at UE Q7 HW14 ⊢
 refine hK.out _ _ trivial (fun _=>?_)
 clear hK K
 (try simp only [Act.put,sA,sZ,sS])
 refine pR 6 ⟨some 28,_,_,_,_,none⟩ (fun K hK=>?_)
 refine fM rfl (.tmp 23) (.tmp 27) rfl wz.heap.size vb info rfl Q7.out _ 1 1 [1] rfl (bQ (UE.out.get 2 rfl) 1 rfl) (by have:=HL.out;have:=Q8.out;omega) HW14.out ?_
 intro v2 y15 how hgr _ _
 have hbe:Below w.heap.size w y15:=aZ (Q7.out.mono (abE (abP HKZ.out) (abD _))) hgr UE.out.below UE.out.below.size
 have HY15:=abC (bO.grown UE.out hgr (by
  intro e he
  simp only [abJ,abI,abQ,or_false,abR,abF] at he
  intro e2
  have hlt:=Q7.out.lt e.1 e2.symm
  have hkz:=HKZ.out
  have hgk:=HG14.out e.1 e2.symm
  have hg11:=HG13.out e.1 e2.symm
  rcases he with rfl|rfl|rfl <;> simp only at hlt hkz hgk hg11 <;> omega) hbe)
 have HO15_:=abC how
 have HW15:Hid (wz.heap.size≤y15.heap.size):=abC (abE HW14.out hgr.size)
 clear how hgr hbe
 refine hK.out _ _ trivial (fun _=>?_)
 clear hK K
 (try simp only [Act.put,sA,sZ,sS])
 refine pR 7 ⟨some 29,_,_,_,_,none⟩ (fun K hK=>?_)
 have hfm:=HO15_.out.form
 obtain ⟨sm,cm,rfl, -, -, hsm,X0⟩:=hfm
 obtain ⟨gm,rfl⟩:∃ g,sm=some ⟨g,0,none⟩:=by
  rcases X0 with ⟨-, h0, -⟩|⟨g,rfl, -, -⟩
  ·exact absurd h0 (by simp)
  ·exact ⟨g,rfl⟩
 rw [abK,HL.out,show ([1]:List Int).length=1 from rfl] at hsm ⊢
 go_simp
 go_at_call 184
 refine (Gs.out _ _ _ _ (bQ (HY15.out.get 0 rfl) 32 lH.out) hsm (dJ vV.out HY15.out.below)).mono ?_
 rintro e y16 ⟨rfl,dP⟩
 have HY16:=abC (HY15.out.kept dP)
 have HO16_:=abC (HO15_.out.below dP)
 have HW16:Hid (wz.heap.size≤y16.heap.size):=abC (abE HW15.out dP.size)
 clear dP hsm X0
 (try dsimp only)
 refine hK.out _ _ trivial (fun _=>?_)
 clear hK K
 (try simp only [Act.put,sA,sZ,sS])
 refine pR 9 ⟨none,_,_,_,_,none⟩ (fun K hK=>?_)
 refine aI rfl 25 (.tmp 11) (.tmp 29) rfl g11 _ _ 25 (HY16.out.get 1 rfl) rfl rfl (av _ _ xA.out dw.out) (bG xA.out) (ak _ _) ?_
 intro y17 dP qI XI
 have HY17:=abC (HY16.out.put 1 rfl qI dP)
 clear dP qI XI
 refine hK.out _ _ trivial (fun _=>?_)
 clear hK K
 (try simp only [Act.put,sA,sZ,sS])
 refine wpAnyH_done (by kernel_rfl) ?_ _
 (try simp only [Exit.then])
 go_wp2_with (first|((with_reducible refine aS 31 ?_);refine aX rfl (.const (.slice none 0 0)) (.tmp 30) rfl (y17).heap.size _ [] rfl (aU.nil _ _) _ 32 32 h1 rfl (bQ (HY17.out.get 1 rfl) 32 xA.out) (by decide) (abD _) ?_;rw [abF];intro vt wt how hgr _ _;have hbt:=aZ (aU.nil (y17) (y17).heap.size) hgr (Below.refl _ _) (abD _);have HIt:=abC (HY17.out.kept hbt);have HOT:=abC how;clear how hgr hbt)|((with_reducible refine aS 34 ?_);obtain ⟨st_,ct_,rfl, -, -, hst, -⟩:=HOT.out.form;refine aX rfl (.tmp 32) (.tmp 33) rfl wt.heap.size _ [] rfl (aU.nil _ _) st_ _ ct_ h1 rfl hst (by rw [xA.out];decide) (abD _) ?_;rw [abF];intro v7 w7 how hgr _ _;have jh:=aZ (aU.nil wt wt.heap.size) hgr (Below.refl _ _) (abD _);have HO7:=abC (how.mono HIt.out.below.size);have fC:=abC (HIt.out.kept jh).below;clear how hgr jh hst))
 go_roundw
 case rel=>exact Or.inr ⟨rfl,HO7.out,fC.out⟩
 case measure=>simp [intOf]
end Go.Proofs.YthdgbgleklkaiaaGreatDoor.Wr
namespace Go.Proofs.YthdgbgleklkaiaaGreatDoor.Mf
open Go.RowKit Lm Fp Cu Sl Sc Ce
theorem TP (v b i:Int) (s:Option Addr) (n c:Nat) {ro ks gs:List Int} (h1:ro.length=32) (h2:ks.length=32) (h3:gs.length=64) (z:List Value) (hz:z.length=196) :
  Instr.fill (fun x => #[((0:Nat),1),(1,1),(2,32),(34,1),(35,97),(132,64)][x]?) z.toArray [(0, .int .i64 v),(1, .int .i64 b),(2, .agg (arr .u8 ro)),(3, .slice s n c),(4, .agg (dz i ks gs))]=some (([Value.int .i64 v,Value.int .i64 b]:List Value) ++ ro.map (Value.int .u8) ++ [Value.slice s n c] ++ (dz i ks gs).toList ++ z.drop 132).toArray:=by
 have hc:(dz i ks gs).size=97:=jO h3 h2
 have a0:=pV (fun x => #[((0:Nat),1),(1,1),(2,32),(34,1),(35,97),(132,64)][x]?) [] z (.int .i64 v) 0 0 [(1, .int .i64 b),(2, .agg (arr .u8 ro)),(3, .slice s n c),(4, .agg (dz i ks gs))] rfl rfl (by simp [Value.cells,hz])
 have a1:=pV (fun x => #[((0:Nat),1),(1,1),(2,32),(34,1),(35,97),(132,64)][x]?) [.int .i64 v] (z.drop 1) (.int .i64 b) 1 1 [(2, .agg (arr .u8 ro)),(3, .slice s n c),(4, .agg (dz i ks gs))] rfl rfl (by simp [Value.cells,hz])
 have a2:=pV (fun x => #[((0:Nat),1),(1,1),(2,32),(34,1),(35,97),(132,64)][x]?) [.int .i64 v, .int .i64 b] (z.drop 2) (.agg (arr .u8 ro)) 2 2 [(3, .slice s n c),(4, .agg (dz i ks gs))] rfl (by simp [Value.cells,arr,h1]) (by simp [Value.cells,arr,h1,hz])
 have a3:=pV (fun x => #[((0:Nat),1),(1,1),(2,32),(34,1),(35,97),(132,64)][x]?) ([Value.int .i64 v,Value.int .i64 b] ++ ro.map (Value.int .u8)) (z.drop 34) (.slice s n c) 3 34 [(4, .agg (dz i ks gs))] (by simp [h1]) rfl (by simp [Value.cells,hz])
 have a4:=pV (fun x => #[((0:Nat),1),(1,1),(2,32),(34,1),(35,97),(132,64)][x]?) ([Value.int .i64 v,Value.int .i64 b] ++ ro.map (Value.int .u8) ++ [Value.slice s n c]) (z.drop 35) (.agg (dz i ks gs)) 4 35 [] (by simp [h1]) (by simp [Value.cells,hc]) (by simp [Value.cells,hc,hz])
 have e2:(z.drop 2).drop (Value.agg (arr .u8 ro)).cells.size=z.drop 34:=by simp [Value.cells,arr,h1]
 have e4:(z.drop 35).drop (Value.agg (dz i ks gs)).cells.size=z.drop 132:=by simp [Value.cells,hc]
 rw [abF] at a0
 rw [a0]
 refine a1.trans ?_
 refine Eq.trans ?_ (a2.trans ?_)
 ·simp [Value.cells]
 rw [e2]
 refine Eq.trans ?_ (a3.trans ?_)
 ·simp [Value.cells,arr]
 refine Eq.trans ?_ (a4.trans ?_)
 ·simp [Value.cells]
 rw [e4,Instr.fill]
 simp [Value.cells]
theorem NA (v b i:Int) (s:Option Addr) (n c:Nat) {ro ks gs:List Int} (h1:ro.length=32) (h2:ks.length=32) (h3:gs.length=64) (w:World) :
  (Instr.build 31 #[(0, .int .i64 v),(1, .int .i64 b),(2, .agg (arr .u8 ro)),(3, .slice s n c),(4, .agg (dz i ks gs))]).run Tryz.prog w = .ok (.agg (bg v b ro (.slice s n c) i ks gs z64)) w:=by
 unfold Instr.build
 simp only [Sem.run_bind,jS,Result.andThen_ok,run_underlying Tryz.underlying31]
 refine (congrArg (fun R=>Result.andThen R _) (show _=Result.ok #[((0:Nat),1),(1,1),(2,32),(34,1),(35,97),(132,64)] w from ?h)).trans ?_
 case h=>kernel_rfl
 simp only [Result.andThen_ok]
 have hm:gI.toList.length=196:=by rw [Array.length_toList];exact bL rfl rfl rfl rfl
 have hf:=TP v b i s n c h1 h2 h3 gI.toList hm
 rw [show (Value.agg gI).cells=gI.toList.toArray by simp [Value.cells],hf]
 have hd:gI.toList.drop 132=z64.map (Value.int .u8):=by
  have:=yC (v:=0) (b:=0) (i:=0) (ro:=z32) (ks:=z32) (gs:=z64) (ss:=z64) (wv := .slice none 0 0) rfl rfl rfl
  rw [show gI.toList.drop 132=(gI.toList.drop 132).take z64.length from (abH (by rw [abS,hm];decide)).symm]
  exact this
 have e:([Value.int .i64 v, .int .i64 b] ++ ro.map (Value.int .u8) ++ [Value.slice s n c] ++ (dz i ks gs).toList ++ gI.toList.drop 132).toArray=bg v b ro (.slice s n c) i ks gs z64:=by
  apply abG
  rw [hd,bP]
  simp [dz,arr]
 rw [e]
 rfl
end Go.Proofs.YthdgbgleklkaiaaGreatDoor.Mf
namespace Go.Proofs.YthdgbgleklkaiaaGreatDoor.Mf
open Go.RowKit
theorem uW (e:Int) (w:World):Calls Tryz.prog 13 #[.int .i64 e] w fun r w'=>r = .returned (.int .i64 e)∧w=w':=by
 go_enter Tryz.func13, Tryz.ntmps13
 go_wp2_with fail
 all_goals (try simp only [Exit.then])
 go_ret
 exact ⟨rfl,rfl⟩
end Go.Proofs.YthdgbgleklkaiaaGreatDoor.Mf
namespace Go.Proofs.YthdgbgleklkaiaaGreatDoor.Mf
open Go.RowKit Lm Fp Cu Sl Sc Ce Bk
def fZ (u:World) (p:Nat) (sa:Option Addr) (cp:Nat) (xs:List Int) (c:List Int×Bool):Prop:=∃ k,qp u p sa cp xs k c.2∧k≤xs.length∧(c.2=false→xs.drop k=c.1)
theorem fZ.lt {u:World} {p cp:Nat} {sa:Option Addr} {xs:List Int} {c:List Int×Bool} (h:fZ u p sa cp xs c):p < u.heap.size:=by
 obtain ⟨k,h1, -⟩:=h
 exact aV h1.st
theorem fZ.below {u u':World} {p cp:Nat} {sa:Option Addr} {xs:List Int} {c:List Int×Bool} (h:fZ u p sa cp xs c) (b:Below u.heap.size u u'):fZ u' p sa cp xs c:=by
 obtain ⟨k,h1,h2,h3⟩:=h
 exact ⟨k,h1.below b,h2,h3⟩
theorem fZ.other {u u':World} {p cp g:Nat} {sa:Option Addr} {xs:List Int} {c:List Int×Bool} (h:fZ u p sa cp xs c) (kk:Kept (fun x=>x=g) u u') (hp:p≠g) (ha:∀ a,sa=some a→a.block≠g∨xs=[]):fZ u' p sa cp xs c:=by
 obtain ⟨k,h1,h2,h3⟩:=h
 refine ⟨k,?_,h2,h3⟩
 rcases h1 with ⟨gg,off,rfl,h1⟩|⟨q1,q2,q3⟩
 ·rcases ha _ rfl with h4|h4
  ·exact .inl ⟨gg,off,rfl,h1.kept kk (by omega) (by have h4:gg≠g:=h4;omega)⟩
  ·subst h4
   have:=h1.le
   exact .inr ⟨rfl,by simpa using this,kk.blk h1.st (by omega)⟩
 ·exact .inr ⟨q1,q2,kk.blk q3 (by omega)⟩
theorem fZ.step {u':World} {p cp:Nat} {sa:Option Addr} {xs:List Int} {c:List Int×Bool} {n:Int} {k:Nat} (h2:k≤xs.length) (h3:c.2=false→xs.drop k=c.1) (hc:qp u' p sa cp xs (k+(bX (xs.drop k) c.2 n).length) (!dR (xs.drop k) c.2 n)) :
  bX (xs.drop k) c.2 n=bX c.1 c.2 n∧fZ u' p sa cp xs (st n c):=by
 obtain ⟨cs,cb⟩:=c
 cases cb with
 | true =>
  have e1:=tu (xs.drop k) n
  have e2:=Dl (xs.drop k) n
  have e3:(st n (cs,true)).2=true:=by show (!dR cs true n)=true;rw [Dl];rfl
  refine ⟨by rw [e1,tu],k,?_,h2,fun h=>by rw [e3] at h;cases h⟩
  simp only [e1,e2] at hc
  rw [e3]
  exact hc
 | false =>
  have e:xs.drop k=cs:=h3 rfl
  simp only [e] at hc ⊢
  refine ⟨by first|rfl|trivial,k+(bX cs false n).length,hc,?_,fun h=>?_⟩
  ·have hl:cs.length=xs.length - k:=by rw [← e,abS]
   have:(bX cs false n).length≤cs.length:=by
    unfold bX
    split
    ·rw [List.length_take];exact Nat.min_le_right _ _
    ·exact Nat.zero_le _
   omega
  ·have ho:dR cs false n=true:=by
    have h:(!dR cs false n)=false:=h
    simpa using h
   rw [← List.drop_drop,e]
   exact Ww ho
theorem ni (p:Nat) (sa:Option Addr) (cp:Nat) (xs:List Int) (c:List Int×Bool) (n:Int) (w:World) (h:fZ w p sa cp xs c) (hl:xs.length≤1099511627776) (hn:0 < n) :
  Calls Tryz.prog 46 #[.pointer (some ⟨p,0,none⟩), .int .i64 n] w fun e w'=>∃ v,e = .returned v∧aU w' w.heap.size v (bX c.1 c.2 n)∧fZ w' p sa cp xs (st n c)∧Kept (· = p) w w':=by
 obtain ⟨k,h1,h2,h3⟩:=h
 refine (DU p sa cp xs k c.2 n w h1 hl hn).mono ?_
 rintro e w' ⟨v,rfl,ho,hc,hk⟩
 obtain ⟨q1,q2⟩:=fZ.step h2 h3 hc
 rw [q1] at ho
 exact ⟨v,rfl,ho,q2,hk⟩
theorem vD (p:Nat) (sa:Option Addr) (cp:Nat) (xs:List Int) (c:List Int×Bool) (w:World) (h:fZ w p sa cp xs c) (hl:xs.length≤1099511627776) (hx:bytes xs) :
  Calls Tryz.prog 47 #[.pointer (some ⟨p,0,none⟩)] w fun e w'=>e = .returned (.int .i64 (mq c.1 c.2))∧fZ w' p sa cp xs (st 8 c)∧Kept (· = p) w w':=by
 obtain ⟨k,h1,h2,h3⟩:=h
 refine (TW p sa cp xs k c.2 w h1 hl hx).mono ?_
 rintro e w' ⟨rfl,hc,hk⟩
 obtain ⟨q1,q2⟩:=fZ.step h2 h3 hc
 refine ⟨?_,q2,hk⟩
 cases hb:c.2 with
 | true=>rw [Xx]
 | false=>rw [h3 hb]
theorem T9 (p:Nat) (sa:Option Addr) (cp:Nat) (xs:List Int) (c:List Int×Bool) (w:World) (h:fZ w p sa cp xs c) :
  Calls Tryz.prog 50 #[.pointer (some ⟨p,0,none⟩)] w fun e w'=>e = .returned (.bool (!c.2 && decide (c.1.length=0)))∧Below w.heap.size w w':=by
 obtain ⟨k,h1,h2,h3⟩:=h
 have:=Np p sa xs.length cp k c.2 w h1.st
 have e:(!c.2 && decide (k=xs.length))=(!c.2 && decide (c.1.length=0)):=by
  cases hb:c.2 with
  | true=>rfl
  | false =>
   rw [← h3 hb,abS]
   congr 1
   exact decide_eq_decide.2 (by omega)
 rwa [e] at this
theorem JD (p:Nat) (sa:Option Addr) (cp:Nat) (xs:List Int) (c:List Int×Bool) (w:World) (h:fZ w p sa cp xs c) (hl:xs.length≤1099511627776) (had:∀ a,sa=some a→a.block < w.heap.size∨xs=[]) :
  Calls Tryz.prog 48 #[.pointer (some ⟨p,0,none⟩)] w fun e w'=>e = .returned (.agg (arr .u8 (jL c.1 c.2 32)))∧fZ w' p sa cp xs (st 32 c)∧Kept (· = p) w w':=by
 obtain ⟨zn,hzn,HZ,Kj⟩:=zN Sl.zero_num
 have hb0:=((Below.refl _ w).alloc (abD _) (.cells (arr .u8 zn) 25)).alloc (by simp) (.cells (arr .u8 zn) 25)
 have Ju:=h.lt
 have hr:=fun (u:World) (k:fZ u p sa cp xs c)=>ni p sa cp xs c 32 u k hl (by decide)
 have hnl:(bX c.1 c.2 32).length≤32:=tF c.1 c.2 32
 have FY:((arr .u8 zn).toList.take 0 ++ (bX c.1 c.2 32).map (Value.int .u8) ++ (arr .u8 zn).toList.drop (0+(bX c.1 c.2 32).length)).toArray=arr .u8 (jL c.1 c.2 32):=by rw [hzn];exact zT c.1 c.2 32
 have hvl:=fq c.1 c.2 32
 obtain ⟨R,hR⟩:∃ R,R=bX c.1 c.2 32:=⟨_,rfl⟩
 rw [← hR] at hr hnl FY
 generalize jL c.1 c.2 32=N at FY hvl ⊢
 generalize st 32 c=c' at hr ⊢
 have HI0:Hid (((w.alloc (.cells (arr .u8 zn) 25)).alloc (.cells (arr .u8 zn) 25)).heap[w.heap.size]? = some (.cells (arr .u8 zn) 25 (0,0))):=abC (aY (aH w _) _)
 have HI1:Hid (((w.alloc (.cells (arr .u8 zn) 25)).alloc (.cells (arr .u8 zn) 25)).heap[w.heap.size+1]? = some (.cells (arr .u8 zn) 25 (0,0))):=abC (by have:=aH (w.alloc (.cells (arr .u8 zn) 25)) (.cells (arr .u8 zn) 25);rwa [World.size_alloc] at this)
 have HC:=abC (h.below hb0)
 have HB0:=abC hb0
 have HP:=abC Ju
 have HR:=abC hr
 have uL:=abC hnl
 have HNV:=abC FY
 have vU:=abC hvl
 have HAD:=abC had
 clear h hl hb0 Ju hr hnl FY hvl hR hzn had
 go_enter Tryz.func48, Tryz.ntmps48
 go_upto_region 2 with (first|((with_reducible refine aS 2 ?_);refine ah rfl 25 rfl _ (HZ.out _) ?_)|((with_reducible refine aS 3 ?_);refine ah rfl 25 rfl _ (HZ.out _) ?_))
 (try simp only [World.size_alloc,Act.put,sA,sZ,sS])
 generalize ((w.alloc (.cells (arr .u8 zn) 25)).alloc (.cells (arr .u8 zn) 25))=wb at HI0 HI1 HC HB0 ⊢
 refine wp_region_held_drew (S:=fun u=>True) (by kernel_rfl) (trivial) (fun hHeld=>?_)
 refine pT 0 ⟨some 4,_,_,_,_,none⟩ (.slice (some ⟨w.heap.size+1,0,none⟩) 32 32) ?_
 (try simp only [Act.put,sA,sZ,sS])
 refine pT 1 ⟨some 5,_,_,_,_,none⟩ (.pointer (some ⟨p,0,none⟩)) ?_
 (try simp only [Act.put,sA,sZ,sS])
 refine pR 2 ⟨some 6,_,_,_,_,none⟩ (fun K hK=>?_)
 go_simp
 go_at_call 46
 refine (HR.out _ (HC.out.below (Below.refl _ wb).drew)).mono ?_
 rintro e w1 ⟨v1,rfl,ho,hc,hk⟩
 have xB:=abC hc
 obtain ⟨s1,c1,rfl, -, -, hs1, -⟩:=ho.form
 have iY:=abC hs1
 have qJ:Hid (Kept (· = p) wb w1):=abC ((Kept.of_below (Below.refl _ wb).drew).trans hk)
 have HJ0:=abC (qJ.out.blk HI0.out (by have:=HP.out;omega))
 have HJ1:=abC (qJ.out.blk HI1.out (by have:=HP.out;omega))
 clear ho hc hk hs1
 refine hK.out _ _ (trivial) (fun hHeld=>?_)
 clear hK K
 (try simp only [Act.put,sA,sZ,sS])
 refine pR 3 ⟨some 7,_,_,_,_,none⟩ (fun K hK=>?_)
 refine kU rfl (.tmp 4) (.tmp 6) rfl (w.heap.size+1) 0 32 32 R.length c1 s1 (arr .u8 zn) R 25 rfl rfl HJ1.out iY.out uL.out (by rw [aD,Kj.out];have:=uL.out;omega) ?_
 intro w2 hb2 hk2
 rw [HNV.out] at hb2
 have oH:=abC hb2
 have Oo:=abC (hk2.blk HJ0.out (by omega))
 have wI:=abC hk2
 clear hb2 hk2
 refine hK.out _ _ (trivial) (fun hHeld=>?_)
 clear hK K
 (try simp only [Act.put,sA,sZ,sS])
 refine wpAnyH_done (by kernel_rfl) ?_ _
 (try simp only [Exit.then])
 clear hHeld
 go_wp2_with (first|((with_reducible refine aS 8 ?_);refine aB rfl 25 _ rfl (w.heap.size+1) 0 _ 25 (0,0) _ oH.out rfl .u8 N (aj _ _) Tryz.underlying25 rfl (Sl.bU vU.out) ?_)|((with_reducible refine aT 2 ?_);refine au rfl 25 _ _ rfl (w.heap.size) _ _ 25 Oo.out rfl rfl (av _ _ vU.out Kj.out) (Sl.bG vU.out) (ak _ _) ?_;intro w3 hb3 hk3 hz3;have HB3:=abC hb3;have GI:=abC hk3;clear hb3 hk3 hz3))
 (try simp only [Exit.then])
 refine bodyPost_ret (results_cell_row rfl _ _ (w.heap.size) 25 _ (0,0) _ rfl HB3.out Tryz.underlying25 rfl (Sl.bG vU.out)) rfl ?_
 have hk:Kept (· = p) w w3:=((((Kept.of_below HB0.out (T:=(· = p))).trans qJ.out).bS wI.out (fun i hi e=>by have e:i=w.heap.size+1:=e;omega)).bS GI.out (fun i hi e=>by have e:i=w.heap.size:=e;omega))
 have ha:∀ g,w.heap.size≤g→∀ a,sa=some a→a.block≠g∨xs=[]:=fun g hg a e=>(HAD.out a e).imp (fun h=>by omega) id
 exact ⟨rfl,(xB.out.other wI.out (by have:=HP.out;omega) (ha _ (by omega))).other GI.out (by have:=HP.out;omega) (ha _ (by omega)),hk⟩
end Go.Proofs.YthdgbgleklkaiaaGreatDoor.Mf
