/- The document's ReadManifest. Condition: as each theorem says. -/

import Derived.Test.YthdgbgleklkaiaaGreatDoorQc36
open Go.Lib renaming hid→abC
open Nat renaming lt_of_lt_of_le→abD,le_refl→abF,eq_zero_or_pos→abN
open Array renaming ext'→abE
open List renaming length_take→abG,append_nil→abI,length_nil→abJ,take_append_drop→abL,eq_nil_of_length_eq_zero→abO
set_option linter.unusedSimpArgs false
set_option linter.unusedVariables false
set_option maxRecDepth 100000
set_option maxHeartbeats 16000000
namespace Go.Proofs.YthdgbgleklkaiaaGreatDoor.Mf
open Go.RowKit Lm Fp Cu Sl Sc Ce Bk
section
variable {v b i:Int} {ro ks gs ss:List Int} {wv:Value}
theorem Tg (x:Int):(bg v b ro wv i ks gs ss).setIfInBounds 0 (.int .i64 x)=bg x b ro wv i ks gs ss:=by
 apply abE
 rw [Array.toList_setIfInBounds,bP,bP]
 rfl
theorem Lf (h1:ro.length=32) (h2:ks.length=32) (zs:List Int) (bad:Bool):((bg v b ro wv i ks z64 ss).toList.take 68 ++ (bX zs bad 64).map (Value.int .u8) ++ (bg v b ro wv i ks z64 ss).toList.drop (68+(bX zs bad 64).length)).toArray=bg v b ro wv i ks (jL zs bad 64) ss:=by
 unfold bX jL
 by_cases h:dR zs bad 64=true
 ·rw [if_pos h,if_pos (show dR zs bad ((64:Nat):Int)=true from h)]
  obtain ⟨-, -, h3⟩:=eu.1 h
  have hl:(zs.take 64).length=64:=by rw [abG];omega
  have:=zX (v:=v) (b:=b) (i:=i) (wv:=wv) (ss:=ss) (gs:=z64) (g2:=zs.take 64) h1 h2 rfl hl
  rw [bN,aD] at this
  exact this
 ·rw [if_neg h,if_neg (show ¬ dR zs bad ((64:Nat):Int)=true from h)]
  apply abE
  simp only [List.map_nil,abI,abJ,Nat.add_zero,abL]
  rfl
theorem I8 (h1:ro.length=32) (h2:ks.length=32) (h3:gs.length=64) (zs:List Int) (bad:Bool):((bg v b ro wv i ks gs z64).toList.take 132 ++ (bX zs bad 64).map (Value.int .u8) ++ (bg v b ro wv i ks gs z64).toList.drop (132+(bX zs bad 64).length)).toArray=bg v b ro wv i ks gs (jL zs bad 64):=by
 unfold bX jL
 by_cases h:dR zs bad 64=true
 ·rw [if_pos h,if_pos (show dR zs bad ((64:Nat):Int)=true from h)]
  obtain ⟨-, -, h4⟩:=eu.1 h
  have hl:(zs.take 64).length=64:=by rw [abG];omega
  have:=o9 (v:=v) (b:=b) (i:=i) (wv:=wv) (gs:=gs) (ss:=z64) (s2:=zs.take 64) h1 h2 h3 rfl hl
  rw [bN,aD] at this
  exact this
 ·rw [if_neg h,if_neg (show ¬ dR zs bad ((64:Nat):Int)=true from h)]
  apply abE
  simp only [List.map_nil,abI,abJ,Nat.add_zero,abL]
  rfl
end
structure Ew (w u:World) (sa:Option Addr) (cp:Nat) (xs:List Int) (g6:Nat) (M:Array Value) (c:List Int×Bool) (os:List (Value×List Int)):Prop where
 i:u.heap[w.heap.size]? = some (.cells gI 31 (0,0))
 m:u.heap[g6]? = some (.cells M 31 (0,0))
 cu:fZ u (w.heap.size+1) sa cp xs c
 n:w.heap.size+1 < g6
 ad:∀ a,sa=some a→a.block < w.heap.size∨xs=[]
 o:∀ e∈os,aU u (w.heap.size+1+1) e.1 e.2∧∀ k,e.1.ownBlock=some k→k≠g6
 b:Below w.heap.size w u
section
variable {w u u':World} {sa:Option Addr} {cp g6:Nat} {xs:List Int} {M:Array Value} {c c':List Int×Bool} {os:List (Value×List Int)}
theorem Ew.turn (h:Ew w u sa cp xs g6 M c os) (k:Kept (· = w.heap.size+1) u u') (hc:fZ u' (w.heap.size+1) sa cp xs c'):Ew w u' sa cp xs g6 M c' os :=
 ⟨k.blk h.i (by omega),k.blk h.m (by have:=h.n;omega),hc,h.n,h.ad,fun e he=>⟨(h.o e he).1.kept k (fun g hg=>by have:=(h.o e he).1.lt g hg;omega),(h.o e he).2⟩,h.b.trans ⟨k.os,k.tape,k.output,k.size,fun j hj=>k.block j (abD hj h.b.size) (by omega)⟩⟩
theorem Ew.own {v:Value} {ys:List Int} (h:Ew w u sa cp xs g6 M c os) (k:Kept (· = w.heap.size+1) u u') (hc:fZ u' (w.heap.size+1) sa cp xs c') (ho:aU u' u.heap.size v ys):Ew w u' sa cp xs g6 M c' (os ++ [(v,ys)]):=by
 have h2:=h.turn k hc
 refine ⟨h2.i,h2.m,h2.cu,h2.n,h2.ad,fun e he=>?_,h2.b⟩
 rcases List.mem_append.1 he with he|he
 ·exact h2.o e he
 ·obtain rfl:=List.mem_singleton.1 he
  have hm:=aV h.m
  have hn:=h.n
  exact ⟨ho.mono (by omega),fun k hk=>by have:=ho.lt k hk;omega⟩
theorem Ew.put {M':Array Value} (h:Ew w u sa cp xs g6 M c os) (k:Kept (fun x=>x=g6) u u') (hm:u'.heap[g6]? = some (.cells M' 31 (0,0))):Ew w u' sa cp xs g6 M' c os :=
 ⟨k.blk h.i (by have:=h.n;omega),hm,h.cu.other k (by have:=h.n;omega) (fun a e=>(h.ad a e).imp (fun q=>by have:=h.n;omega) id),h.n,h.ad,fun e he=>⟨(h.o e he).1.kept k (fun g hg=>(h.o e he).2 g hg),(h.o e he).2⟩,h.b.trans ⟨k.os,k.tape,k.output,k.size,fun j hj=>k.block j (abD hj h.b.size) (by have:=h.n;omega)⟩⟩
theorem Ew.set (h:Ew w u sa cp xs g6 M c os) (o:Nat) (x:Value):Ew w (u.setCell ⟨g6,o,none⟩ x) sa cp xs g6 (M.setIfInBounds o x) c os :=
 h.put ((Kept.refl _ u).at o x) (aQ h.m x)
theorem Ew.fresh (h:Ew w u sa cp xs g6 M c os) (k:Below u.heap.size u u'):Ew w u' sa cp xs g6 M c os :=
 ⟨Below.blk k h.i (aV h.i),Below.blk k h.m (aV h.m),h.cu.below k,h.n,h.ad,fun e he=>⟨(h.o e he).1.below k,(h.o e he).2⟩,h.b.trans (k.mono h.b.size)⟩
end
theorem ido_new {w:World} {sa:Option Addr} {n c:Nat} {xs:List Int} (o:Obj) (hs:Src w sa n xs) (hc:n≤c) (hn:n≤1099511627776):fZ ((w.alloc o).alloc (.cells #[.slice sa n c, .int .i64 0, .bool false] 86)) (w.heap.size+1) sa c xs (xs,false):=by
 have hln:=hs.len
 have hb:Below w.heap.size w ((w.alloc o).alloc (.cells #[.slice sa n c, .int .i64 0, .bool false] 86)):=((Below.refl _ w).alloc (abF _) _).alloc (by simp) _
 have hst:((w.alloc o).alloc (.cells #[.slice sa n c, .int .i64 0, .bool false] 86)).heap[w.heap.size+1]? = some (.cells #[.slice sa xs.length c, .int .i64 ((0:Nat):Int), .bool false] 86 (0,0)):=by
  have:=aH (w.alloc o) (.cells #[.slice sa n c, .int .i64 0, .bool false] 86)
  rw [World.size_alloc] at this
  rw [hln]
  exact this
 refine ⟨0,?_,Nat.zero_le _,fun _=>List.drop_zero⟩
 rcases abN n with h0|h0
 ·have hxn:xs=[]:=abO (by rw [hln,h0])
  exact .inr ⟨hxn,rfl,hst⟩
 ·obtain ⟨a,rfl,hca⟩:=hs.cell 0 h0
  obtain ⟨g,off,rfl⟩:∃ g off,a=⟨g,off,none⟩:=by
   rcases a with ⟨g,off,sp⟩
   cases sp with
   | none=>exact ⟨g,off,rfl⟩
   | some s=>exfalso;simp [World.cell?, Addr.add] at hca;split at hca <;> cases hca
  have hlt:g < w.heap.size:=World.block_lt_of_cell? _ _ hca
  have hs2:Src ((w.alloc o).alloc (.cells #[.slice (some ⟨g,off,none⟩) n c, .int .i64 0, .bool false] 86)) (some ⟨g,off,none⟩) xs.length xs:=by
   rw [hln]
   exact hs.below hb
  exact .inl ⟨g,off,rfl,hst,hs2,by rw [hln];exact hc,Nat.zero_le _,by omega⟩
theorem WO {w:World} {B:Nat} {sa:Option Addr} {n c:Nat} {xs:List Int} (h:aU w B (.slice sa n c) xs):Src w sa n xs∧n=xs.length:=by
 obtain ⟨a,d,e, -, -, hs, -⟩:=h.form
 injection e with e1 e2 e3
 subst e1 e2 e3
 exact ⟨hs,rfl⟩
theorem zG (sa:Option Addr) (n cp:Nat) (xs:List Int) (w:World) (hs:Src w sa n xs) (hc:n≤cp) (hx:bytes xs) (hn:n≤1099511627776) :
  Calls Tryz.prog 12 #[.slice sa n cp] w fun e w'=>∃ M E,e = .returned (.tuple #[.agg M, .int .i64 E])∧((F5 xs=true∧E=0∧∃ sw cw,M=bg (fv xs) (fb xs) (tY xs) (.slice sw (fws xs).length cw) (fi xs) (sF xs) (sG xs) (sD xs)∧aU w' w.heap.size (.slice sw (fws xs).length cw) (fws xs))∨(F5 xs=false∧E=4∧M=gI))∧Below w.heap.size w w':=by
 have hxl:xs.length≤1099511627776:=by rw [hs.len];exact hn
 have hi1:=ido_new (.cells gI 31) hs hc hn
 have had:∀ a,sa=some a→a.block < w.heap.size∨xs=[]:=by
  intro a e
  rcases abN n with h0|h0
  ·exact .inr (abO (by rw [hs.len,h0]))
  ·obtain ⟨a',e',hc'⟩:=hs.cell 0 h0
   rw [e] at e'
   cases e'
   exact .inl (World.block_lt_of_cell? _ _ hc')
 have hw1:=fun (u:World) (h:fZ u (w.heap.size+1) sa cp xs (xs,false))=>ni (w.heap.size+1) sa cp xs (xs,false) 4 u h hxl (by decide)
 have hw2:∀ (u:World),fZ u (w.heap.size+1) sa cp xs (Cv xs)→(∀ a,sa=some a→a.block < u.heap.size∨xs=[])→Calls Tryz.prog 47 #[.pointer (some ⟨w.heap.size+1,0,none⟩)] u fun e w'=>e = .returned (.int .i64 (fv xs))∧fZ w' (w.heap.size+1) sa cp xs (mU xs)∧Kept (· = w.heap.size+1) u w':=fun u h ha=>vD _ sa cp xs (Cv xs) u h hxl hx
 have hw3:∀ (u:World),fZ u (w.heap.size+1) sa cp xs (mU xs)→(∀ a,sa=some a→a.block < u.heap.size∨xs=[])→Calls Tryz.prog 47 #[.pointer (some ⟨w.heap.size+1,0,none⟩)] u fun e w'=>e = .returned (.int .i64 (fb xs))∧fZ w' (w.heap.size+1) sa cp xs (Dx xs)∧Kept (· = w.heap.size+1) u w':=fun u h ha=>vD _ sa cp xs (mU xs) u h hxl hx
 have hw4:∀ (u:World),fZ u (w.heap.size+1) sa cp xs (Dx xs)→(∀ a,sa=some a→a.block < u.heap.size∨xs=[])→Calls Tryz.prog 48 #[.pointer (some ⟨w.heap.size+1,0,none⟩)] u fun e w'=>e = .returned (.agg (arr .u8 (tY xs)))∧fZ w' (w.heap.size+1) sa cp xs (yB xs)∧Kept (· = w.heap.size+1) u w':=fun u h ha=>JD _ sa cp xs (Dx xs) u h hxl ha
 have Qm:∀ (u:World),fZ u (w.heap.size+1) sa cp xs (yB xs)→(∀ a,sa=some a→a.block < u.heap.size∨xs=[])→Calls Tryz.prog 46 #[.pointer (some ⟨w.heap.size+1,0,none⟩), .int .i64 80] u fun e w'=>∃ v,e = .returned v∧aU w' u.heap.size v (bX (yB xs).1 (yB xs).2 80)∧fZ w' (w.heap.size+1) sa cp xs (Dw xs)∧Kept (· = w.heap.size+1) u w':=fun u h ha=>ni _ sa cp xs (yB xs) 80 u h hxl (by decide)
 have Lr:∀ (u:World),fZ u (w.heap.size+1) sa cp xs (Dw xs)→(∀ a,sa=some a→a.block < u.heap.size∨xs=[])→Calls Tryz.prog 47 #[.pointer (some ⟨w.heap.size+1,0,none⟩)] u fun e w'=>e = .returned (.int .i64 (fi xs))∧fZ w' (w.heap.size+1) sa cp xs (Dv xs)∧Kept (· = w.heap.size+1) u w':=fun u h ha=>vD _ sa cp xs (Dw xs) u h hxl hx
 have hw7:∀ (u:World),fZ u (w.heap.size+1) sa cp xs (Dv xs)→(∀ a,sa=some a→a.block < u.heap.size∨xs=[])→Calls Tryz.prog 48 #[.pointer (some ⟨w.heap.size+1,0,none⟩)] u fun e w'=>e = .returned (.agg (arr .u8 (sF xs)))∧fZ w' (w.heap.size+1) sa cp xs (su xs)∧Kept (· = w.heap.size+1) u w':=fun u h ha=>JD _ sa cp xs (Dv xs) u h hxl ha
 have hw8:∀ (u:World),fZ u (w.heap.size+1) sa cp xs (su xs)→(∀ a,sa=some a→a.block < u.heap.size∨xs=[])→Calls Tryz.prog 46 #[.pointer (some ⟨w.heap.size+1,0,none⟩), .int .i64 64] u fun e w'=>∃ v,e = .returned v∧aU w' u.heap.size v (bX (su xs).1 (su xs).2 64)∧fZ w' (w.heap.size+1) sa cp xs (tJ xs)∧Kept (· = w.heap.size+1) u w':=fun u h ha=>ni _ sa cp xs (su xs) 64 u h hxl (by decide)
 have J9:∀ (u:World),fZ u (w.heap.size+1) sa cp xs (tJ xs)→(∀ a,sa=some a→a.block < u.heap.size∨xs=[])→Calls Tryz.prog 46 #[.pointer (some ⟨w.heap.size+1,0,none⟩), .int .i64 64] u fun e w'=>∃ v,e = .returned v∧aU w' u.heap.size v (bX (tJ xs).1 (tJ xs).2 64)∧fZ w' (w.heap.size+1) sa cp xs (Tf xs)∧Kept (· = w.heap.size+1) u w':=fun u h ha=>ni _ sa cp xs (tJ xs) 64 u h hxl (by decide)
 have Cz:∀ (u:World),fZ u (w.heap.size+1) sa cp xs (Tf xs)→Calls Tryz.prog 50 #[.pointer (some ⟨w.heap.size+1,0,none⟩)] u fun e w'=>e = .returned (.bool (fE xs))∧Below u.heap.size u w':=fun u h=>T9 _ sa cp xs (Tf xs) u h
 have hq:((strOfNums (fH xs)).toList == [80,67,77,49])=decide (fH xs=[80,67,77,49]):=by
  have h1:=Sm.str_eq (fH xs) [80,67,77,49] (Dk hx _ _).1 (by unfold bytes;decide)
  rwa [VP,QO] at h1
 have hlr:(tY xs).length=32:=fq _ _ _
 have hlk:(sF xs).length=32:=fq _ _ _
 have Qv:(sG xs).length=64:=fq _ _ _
 have hls:(sD xs).length=64:=fq _ _ _
 have tX:=fun (s:Option Addr) (c:Nat) (u:World) (h:Src u s (fws xs).length (fws xs))=>uV (ro:=tY xs) (ks:=sF xs) (gs:=sG xs) (ss:=sD xs) (ws:=fws xs) (fv xs) (fb xs) (fi xs) s (fws xs).length c u hlr hlk Qv hls h
 have CF:=fun (wv:Value)=>Lf (v:=fv xs) (b:=fb xs) (i:=fi xs) (wv:=wv) (ss:=z64) hlr hlk (su xs).1 (su xs).2
 have pO:=fun (wv:Value)=>I8 (v:=fv xs) (b:=fb xs) (i:=fi xs) (wv:=wv) hlr hlk Qv (tJ xs).1 (tJ xs).2
 have hn7:=tF (su xs).1 (su xs).2 64
 have hn8:=tF (tJ xs).1 (tJ xs).2 64
 rw [show jL (su xs).1 (su xs).2 64=sG xs from rfl] at CF
 rw [show jL (tJ xs).1 (tJ xs).2 64=sD xs from rfl] at pO
 rw [show bX (yB xs).1 (yB xs).2 80=fws xs from rfl] at Qm
 rw [show bX ((xs,false):List Int×Bool).1 ((xs,false):List Int×Bool).2 4=fH xs from rfl,show st 4 (xs,false)=Cv xs from rfl] at hw1
 simp only [show ((64:Nat):Int)=64 from rfl] at hn7 hn8
 unfold F5
 obtain ⟨R7,hR7⟩:∃ r,r=bX (su xs).1 (su xs).2 64:=⟨_,rfl⟩
 obtain ⟨R8,hR8⟩:∃ r,r=bX (tJ xs).1 (tJ xs).2 64:=⟨_,rfl⟩
 rw [← hR7] at hw8 CF hn7
 rw [← hR8] at J9 pO hn8
 clear hR7 hR8
 generalize Cv xs=C1 at hw1 hw2
 generalize mU xs=C2 at hw2 hw3
 generalize Dx xs=C3 at hw3 hw4
 generalize yB xs=C4 at hw4 Qm
 generalize Dw xs=C5 at Qm Lr
 generalize Dv xs=C6 at Lr hw7
 generalize su xs=C7 at hw7 hw8
 generalize tJ xs=C8 at hw8 J9
 generalize Tf xs=C9 at J9 Cz
 generalize fv xs=fV at hw2 tX CF pO ⊢
 generalize fb xs=fB at hw3 tX CF pO ⊢
 generalize tY xs=fR at hw4 tX hlr CF pO ⊢
 generalize fws xs=fW at Qm tX ⊢
 generalize fi xs=fI at Lr tX CF pO ⊢
 generalize sF xs=fK at hw7 tX hlk CF pO ⊢
 generalize sG xs=fG at tX Qv CF pO ⊢
 generalize sD xs=fS at tX hls pO ⊢
 generalize fE xs=fE_ at Cz ⊢
 generalize fH xs=fH_ at hw1 hq ⊢
 obtain ⟨nW,hnW⟩:∃ n,n=fW.length:=⟨_,rfl⟩
 rw [← hnW] at tX ⊢
 obtain ⟨E,hE⟩:∃ E:Int,E=(if iA fV fB nW fI then 0 else 1):=⟨_,rfl⟩
 rw [← hE] at tX
 obtain ⟨SH,hSH⟩:∃ x,x=strOfNums fH_:=⟨_,rfl⟩
 rw [← hSH] at hq
 obtain ⟨D,hD⟩:∃ d,d=decide (fH_=[80,67,77,49]):=⟨_,rfl⟩
 rw [← hD] at hq ⊢
 clear hD
 have HQ0:=abC hq
 clear hq
 obtain ⟨mz,hmz⟩:∃ m,m=gI:=⟨_,rfl⟩
 have U2:Hid (gI=mz):=abC hmz.symm
 have HMZ:Hid (mz=bg 0 0 z32 (.slice none 0 0) 0 z32 z64 z64):=abC hmz
 have UD:Hid (mz.size=196):=abC (by rw [hmz];exact bL rfl rfl rfl rfl)
 have NV:Hid (mz.all (·.oneCell')=true):=abC (by rw [hmz];exact gH rfl)
 have yK:Hid ((Tryz.prog.info? 31).map (·.size)=some mz.size):=abC (by rw [UD.out];exact dU)
 have HZ:Hid (∀ w,(zeroValue 31).run Tryz.prog w = .ok (.agg mz) w):=abC (by rw [hmz];exact jS)
 have HZ0:Hid (∀ w,(Instr.build 31 #[]).run Tryz.prog w = .ok (.agg mz) w):=abC (by rw [hmz];exact rJ)
 rw [← hmz] at hi1 ⊢
 have qK:Hid (Below w.heap.size w ((w.alloc (.cells mz 31)).alloc (.cells #[.slice sa n cp, .int .i64 0, .bool false] 86))):=abC (((Below.refl _ w).alloc (abF _) _).alloc (by simp) _)
 have HI0:Hid (((w.alloc (.cells mz 31)).alloc (.cells #[.slice sa n cp, .int .i64 0, .bool false] 86)).heap[w.heap.size]? = some (.cells mz 31 (0,0))):=abC (aY (aH w _) _)
 have Ej:Hid (((bg fV fB z32 (.slice none 0 0) 0 z32 z64 z64).toList.take 2 ++ (arr .u8 fR).toList ++ (bg fV fB z32 (.slice none 0 0) 0 z32 z64 z64).toList.drop (2+(arr .u8 fR).size)).toArray=bg fV fB fR (.slice none 0 0) 0 z32 z64 z64):=abC (Dz rfl hlr)
 have Am:Hid (2+(arr .u8 fR).size≤(bg fV fB z32 (.slice none 0 0) 0 z32 z64 z64).size):=abC (by rw [aD,hlr,bL rfl rfl rfl rfl];omega)
 have Oi:Hid (∀ wv,((bg fV fB fR wv fI z32 z64 z64).toList.take 36 ++ (arr .u8 fK).toList ++ (bg fV fB fR wv fI z32 z64 z64).toList.drop (36+(arr .u8 fK).size)).toArray=bg fV fB fR wv fI fK z64 z64):=abC (fun wv=>zY hlr rfl hlk)
 have rQ:Hid (∀ wv,36+(arr .u8 fK).size≤(bg fV fB fR wv fI z32 z64 z64).size):=abC (fun wv=>by rw [aD,hlk,bL hlr rfl rfl rfl];omega)
 have HZ68:Hid (∀ wv,(bg fV fB fR wv fI fK z64 z64).size=196):=abC (fun wv=>bL hlr hlk rfl rfl)
 have aaH:Hid (∀ wv,(bg fV fB fR wv fI fK fG z64).size=196):=abC (fun wv=>bL hlr hlk Qv rfl)
 have HW1:=abC hw1
 have HW2:=abC hw2
 have HW3:=abC hw3
 have HW4:=abC hw4
 have HW5:=abC Qm
 have UF:=abC Lr
 have HW7:=abC hw7
 have HW8:=abC hw8
 have Ak:=abC J9
 have Bu:=abC Cz
 have Ib:=abC hlr
 have HLK:=abC hlk
 have HLG:=abC Qv
 have HLS:=abC hls
 have Kk:=abC tX
 have Oh:=abC CF
 have BF:=abC pO
 have HN7:=abC hn7
 have HN8:=abC hn8
 have HAD:=abC had
 have HI1:=abC hi1
 have HE:=abC hE
 have HNW:=abC hnW
 have UK:=abC hSH.symm
 clear hs hc hx hn hxl hi1 had hw1 hw2 hw3 hw4 Qm Lr hw7 hw8 J9 Cz hlr hlk Qv hls tX CF pO hn7 hn8 hmz hSH hE hnW
 go_enter Tryz.func12, Tryz.ntmps12
 go_upto_region 2 with ((with_reducible refine aS 2 ?_);refine ah rfl 31 rfl _ (HZ.out _) ?_)
 generalize (w.alloc (.cells mz 31)).alloc (.cells #[.slice sa n cp, .int .i64 0, .bool false] 86)=w1 at HI0 HI1 qK ⊢
 go_upto_region 3 with (go_at_call 46; refine (HW1.out _ HI1.out).mono ?_;rintro e w2 ⟨v2,rfl,ho,wU,hk⟩;have HI2:=abC (hk.blk HI0.out (by omega));have HCU:=abC wU;have xV:=abC (ho.mono (Nat.le_of_eq rfl));have HB2:Hid (Below w.heap.size w w2):=abC (qK.out.trans ⟨hk.os,hk.tape,hk.output,hk.size,fun j hj=>hk.block j (abD hj qK.out.size) (by omega)⟩);have iY:Hid (w.heap.size+1 < w1.heap.size∧w1.heap.size≤w2.heap.size):=abC ⟨HI1.out.lt,hk.size⟩;clear ho wU hk)
 clear HI0 HI1 qK
 go_upto_region 4 with ((with_reducible refine aS 6 ?_);refine ah rfl 31 rfl _ (HZ.out _) ?_)
 (try simp only [World.size_alloc,Act.put,sA,sZ,sS])
 have hr3:Ew w (w2.alloc (.cells mz 31)) sa cp xs w2.heap.size mz C1 [(v2,fH_)]:=by
  have hb:=(Below.refl _ w2).alloc (abF _) (.cells mz 31)
  have hs:=iY.out
  refine ⟨by rw [U2.out];exact Below.blk hb HI2.out (aV HI2.out),aH w2 _,HCU.out.below hb,by omega,HAD.out,fun e he=>?_,HB2.out.trans (hb.mono HB2.out.size)⟩
  obtain rfl:=List.mem_singleton.1 he
  exact ⟨(xV.out.mono (by omega)).below hb,fun k hk=>by have:=xV.out.lt k hk;omega⟩
 have HR3:=abC hr3
 clear hr3 HI2 HCU xV HB2 iY
 generalize w2.heap.size=g6 at HR3 ⊢
 generalize w2.alloc (.cells mz 31)=w3 at HR3 ⊢
 rw [HMZ.out] at HR3
 have hfr:∀ u:World,Ew w u sa cp xs g6 (bg 0 0 z32 (.slice none 0 0) 0 z32 z64 z64) C2 [(v2,fH_)]→u.cell? ⟨g6,0,none⟩=some (.int .i64 0)∧u.frozen? ⟨g6,0,none⟩=false:=fun u h=>⟨by rw [aF h.m];exact rC,aC h.m 0⟩
 have Er:=abC hfr
 clear hfr
 go_upto_region 5 with (go_at_call 47; refine (HW2.out _ HR3.out.cu (fun a e=>(HAD.out a e).imp (fun q=>abD q HR3.out.b.size) id)).mono ?_;rintro e w4x ⟨rfl,wU,hk⟩;have hr:=HR3.out.turn hk wU;have HR4x:=abC hr;obtain ⟨Ul,D6⟩:=Er.out _ hr;clear hr wU hk)
 obtain ⟨w4,hw⟩:∃ x,x=w4x.setCell ⟨g6,0,none⟩ (.int .i64 fV):=⟨_,rfl⟩
 rw [← hw]
 have HR4:=abC (HR4x.out.set 0 (.int .i64 fV))
 rw [Tg,← hw] at HR4
 clear hw Ul D6 Er HR3 HR4x
 have hfr:∀ u:World,Ew w u sa cp xs g6 (bg fV 0 z32 (.slice none 0 0) 0 z32 z64 z64) C3 [(v2,fH_)]→u.cell? ⟨g6,1,none⟩=some (.int .i64 0)∧u.frozen? ⟨g6,1,none⟩=false:=fun u h=>⟨by rw [aF h.m];exact pq,aC h.m 1⟩
 have Er:=abC hfr
 clear hfr
 go_upto_region 6 with (go_at_call 47; refine (HW3.out _ HR4.out.cu (fun a e=>(HAD.out a e).imp (fun q=>abD q HR4.out.b.size) id)).mono ?_;rintro e w5x ⟨rfl,wU,hk⟩;have hr:=HR4.out.turn hk wU;have HR5x:=abC hr;obtain ⟨Ul,D6⟩:=Er.out _ hr;clear hr wU hk)
 obtain ⟨w5,hw⟩:∃ x,x=w5x.setCell ⟨g6,1,none⟩ (.int .i64 fB):=⟨_,rfl⟩
 rw [← hw]
 have Ei:=abC (HR5x.out.set 1 (.int .i64 fB))
 rw [Dy,← hw] at Ei
 clear hw Ul D6 Er HR4 HR5x
 go_upto_region 7 with (first|(go_at_call 48; refine (HW4.out _ Ei.out.cu (fun a e=>(HAD.out a e).imp (fun q=>abD q Ei.out.b.size) id)).mono ?_;rintro e w6x ⟨rfl,wU,hk⟩;have HR6x:=abC (Ei.out.turn hk wU);clear wU hk)|((with_reducible refine aT 22 ?_);refine dD rfl 25 _ _ rfl g6 2 _ (arr .u8 fR) 31 HR6x.out.m rfl rfl Am.out (Sl.bG Ib.out) (ak _ _) ?_;intro w6 hb hk hz;rw [Ej.out] at hb;have Od:=abC (HR6x.out.put hk hb);clear hb hk hz))
 clear Ei HR6x
 have hfr:∀ (u:World) (q:List (Value×List Int)),Ew w u sa cp xs g6 (bg fV fB fR (.slice none 0 0) 0 z32 z64 z64) C5 q→u.cell? ⟨g6,34,none⟩=some (.slice none 0 0)∧u.frozen? ⟨g6,34,none⟩=false:=fun u q h=>⟨by rw [aF h.m];exact lT Ib.out,aC h.m 34⟩
 have Er:=abC hfr
 clear hfr
 go_upto_region 8 with (go_at_call 46; refine (HW5.out _ Od.out.cu (fun a e=>(HAD.out a e).imp (fun q=>abD q Od.out.b.size) id)).mono ?_;rintro e w7x ⟨v7,rfl,ho,wU,hk⟩;obtain ⟨s10,c10,rfl, -⟩:=ho.form;rw [← HNW.out] at ho ⊢; have hr:=Od.out.own hk wU ho;have HR7x:=abC hr;obtain ⟨Ul,D6⟩:=Er.out _ _ hr;clear hr wU hk ho)
 obtain ⟨w7,hw⟩:∃ x,x=w7x.setCell ⟨g6,34,none⟩ (.slice s10 nW c10):=⟨_,rfl⟩
 rw [← hw]
 have Eh:=abC (HR7x.out.set 34 (.slice s10 nW c10))
 rw [rA Ib.out,← hw] at Eh
 clear hw Ul D6 Er Od HR7x
 have hfr:∀ u:World,Ew w u sa cp xs g6 (bg fV fB fR (.slice s10 nW c10) 0 z32 z64 z64) C6 ([(v2,fH_)] ++ [(.slice s10 nW c10,fW)])→u.cell? ⟨g6,35,none⟩=some (.int .i64 0)∧u.frozen? ⟨g6,35,none⟩=false:=fun u h=>⟨by rw [aF h.m];exact tL Ib.out,aC h.m 35⟩
 have Er:=abC hfr
 clear hfr
 go_upto_region 9 with (go_at_call 47; refine (UF.out _ Eh.out.cu (fun a e=>(HAD.out a e).imp (fun q=>abD q Eh.out.b.size) id)).mono ?_;rintro e w8x ⟨rfl,wU,hk⟩;have hr:=Eh.out.turn hk wU;have HR8x:=abC hr;obtain ⟨Ul,D6⟩:=Er.out _ hr;clear hr wU hk)
 obtain ⟨w8,hw⟩:∃ x,x=w8x.setCell ⟨g6,35,none⟩ (.int .i64 fI):=⟨_,rfl⟩
 rw [← hw]
 have BA:=abC (HR8x.out.set 35 (.int .i64 fI))
 rw [zW Ib.out,← hw] at BA
 clear hw Ul D6 Er Eh HR8x
 have Oi:=abC (Oi.out (.slice s10 nW c10))
 have rQ:=abC (rQ.out (.slice s10 nW c10))
 have Oh:=abC (Oh.out (.slice s10 nW c10))
 have BF:=abC (BF.out (.slice s10 nW c10))
 have HZ68:=abC (HZ68.out (.slice s10 nW c10))
 have aaH:=abC (aaH.out (.slice s10 nW c10))
 go_upto_region 10 with (first|(go_at_call 48; refine (HW7.out _ BA.out.cu (fun a e=>(HAD.out a e).imp (fun q=>abD q BA.out.b.size) id)).mono ?_;rintro e w9x ⟨rfl,wU,hk⟩;have HR9x:=abC (BA.out.turn hk wU);clear wU hk)|((with_reducible refine aT 33 ?_);refine dD rfl 25 _ _ rfl g6 36 _ (arr .u8 fK) 31 HR9x.out.m rfl rfl rQ.out (Sl.bG HLK.out) (ak _ _) ?_;intro w9 hb hk hz;rw [Oi.out] at hb;have UM:=abC (HR9x.out.put hk hb);clear hb hk hz))
 clear BA HR9x
 refine wp_region_held_drew (S:=fun u=>True) (by kernel_rfl) (trivial) (fun hHeld=>?_)
 refine pT 0 ⟨some 34,_,_,_,_,none⟩ (.pointer (some ⟨g6,35,none⟩)) ?_
 (try simp only [Act.put,sA,sZ,sS])
 refine pT 1 ⟨some 35,_,_,_,_,none⟩ (.pointer (some ⟨g6,68,none⟩)) ?_
 (try simp only [Act.put,sA,sZ,sS])
 refine pT 2 ⟨some 36,_,_,_,_,none⟩ (.slice (some ⟨g6,68,none⟩) 64 64) ?_
 (try simp only [Act.put,sA,sZ,sS])
 refine pT 3 ⟨some 37,_,_,_,_,none⟩ (.pointer (some ⟨w.heap.size+1,0,none⟩)) ?_
 (try simp only [Act.put,sA,sZ,sS])
 refine pR 4 ⟨some 38,_,_,_,_,none⟩ (fun K hK=>?_)
 go_simp
 go_at_call 46
 have hr0:=UM.out.fresh (Below.refl _ w9).drew
 refine (HW8.out _ hr0.cu (fun a e=>(HAD.out a e).imp (fun q=>abD q hr0.b.size) id)).mono ?_
 rintro e w10x ⟨v,rfl,ho,wU,hk⟩
 have Aq:=abC (hr0.turn hk wU)
 obtain ⟨s1,c1,rfl, -, -, hs1, -⟩:=ho.form
 have UH:=abC hs1
 clear hr0 ho wU hk hs1
 refine hK.out _ _ (trivial) (fun hHeld=>?_)
 clear hK K
 (try simp only [Act.put,sA,sZ,sS])
 refine pR 5 ⟨some 39,_,_,_,_,none⟩ (fun K hK=>?_)
 refine kU rfl (.tmp 36) (.tmp 38) rfl g6 68 64 64 R7.length c1 s1 (bg fV fB fR (.slice s10 nW c10) fI fK z64 z64) R7 31 rfl rfl Aq.out.m UH.out HN7.out (by rw [HZ68.out];have:=HN7.out;omega) ?_
 intro w10 hb hk
 rw [Oh.out] at hb
 have BD:=abC (Aq.out.put hk hb)
 clear hb hk
 refine hK.out _ _ (trivial) (fun hHeld=>?_)
 clear hK K
 (try simp only [Act.put,sA,sZ,sS])
 refine wpAnyH_done (by kernel_rfl) ?_ _
 (try simp only [Exit.then])
 clear hHeld UH UM Aq
 go_upto_region 11 with fail
 refine wp_region_held_drew (S:=fun u=>True) (by kernel_rfl) (trivial) (fun hHeld=>?_)
 refine pT 0 ⟨some 40,_,_,_,_,none⟩ (.pointer (some ⟨g6,132,none⟩)) ?_
 (try simp only [Act.put,sA,sZ,sS])
 refine pT 1 ⟨some 41,_,_,_,_,none⟩ (.slice (some ⟨g6,132,none⟩) 64 64) ?_
 (try simp only [Act.put,sA,sZ,sS])
 refine pT 2 ⟨some 42,_,_,_,_,none⟩ (.pointer (some ⟨w.heap.size+1,0,none⟩)) ?_
 (try simp only [Act.put,sA,sZ,sS])
 refine pR 3 ⟨some 43,_,_,_,_,none⟩ (fun K hK=>?_)
 go_simp
 go_at_call 46
 have hr0:=BD.out.fresh (Below.refl _ w10).drew
 refine (Ak.out _ hr0.cu (fun a e=>(HAD.out a e).imp (fun q=>abD q hr0.b.size) id)).mono ?_
 rintro e w11x ⟨v,rfl,ho,wU,hk⟩
 have Ap:=abC (hr0.turn hk wU)
 obtain ⟨s1,c1,rfl, -, -, hs1, -⟩:=ho.form
 have UH:=abC hs1
 clear hr0 ho wU hk hs1
 refine hK.out _ _ (trivial) (fun hHeld=>?_)
 clear hK K
 (try simp only [Act.put,sA,sZ,sS])
 refine pR 4 ⟨some 44,_,_,_,_,none⟩ (fun K hK=>?_)
 refine kU rfl (.tmp 41) (.tmp 43) rfl g6 132 64 64 R8.length c1 s1 (bg fV fB fR (.slice s10 nW c10) fI fK fG z64) R8 31 rfl rfl Ap.out.m UH.out HN8.out (by rw [aaH.out];have:=HN8.out;omega) ?_
 intro w11 hb hk
 rw [BF.out] at hb
 have Gq:=abC (Ap.out.put hk hb)
 clear hb hk
 refine hK.out _ _ (trivial) (fun hHeld=>?_)
 clear hK K
 (try simp only [Act.put,sA,sZ,sS])
 refine wpAnyH_done (by kernel_rfl) ?_ _
 (try simp only [Exit.then])
 clear hHeld UH BD Ap
 have yP:Hid ((Tryz.prog.info? 31).map (·.size)=some (bg fV fB fR (.slice s10 nW c10) fI fK fG fS).size):=abC (by rw [bL Ib.out HLK.out HLG.out HLS.out];exact dU)
 have HBO2:=abC (Kk.out s10 c10)
 obtain ⟨FM,F3⟩:∃ M,M=bg fV fB fR (.slice s10 nW c10) fI fK fG fS:=⟨_,rfl⟩
 have Rk:=abC F3
 rw [← F3] at Gq yP HBO2
 clear F3
 have Bw:=abC (WO (Gq.out.o (.slice s10 nW c10,fW) (by simp)).1)
 go_upto_region 13 with (first|((with_reducible refine aS 46 ?_);refine wpList_load_row rfl 31 _ rfl g6 rfl 31 _ (0,0) _ Gq.out.m Tryz.underlying31 rfl yP.out ?_)|((with_reducible show Calls _ 49 _ _ _);go_at_call 49; refine (HBO2.out _ (by have h:=Bw.out;rw [HNW.out] at h ⊢; exact h.1)).mono ?_;rintro e w12 ⟨v47,rfl,ho,hb⟩;have rR:=abC (Gq.out.fresh hb);clear ho hb))
 (try simp only [World.size_alloc,Act.put,sA,sZ,sS])
 clear Gq Bw
 have cv:=(rR.out.o (v2,fH_) (by simp)).1.str
 simp only at cv
 rw [UK.out] at cv
 have hq:=HQ0.out
 clear HQ0
 cases D with
 | true =>
  cases fE_ with
  | false =>
   have vX:Hid ((false && true && iA fV fB nW fI)=false):=abC rfl
   go_wp2_with (first|((with_reducible show Calls _ 50 _ _ _);go_at_call 50; refine (Bu.out _ rR.out.cu).mono ?_;rintro e w13 ⟨rfl,hb⟩;have oq:=abC (rR.out.fresh hb);clear hb)|((with_reducible refine aS 62 ?_);refine wpList_build (by rfl) 31 _ rfl #[] rfl _ (HZ0.out _) ?_)|((with_reducible refine aT 2 ?_);refine au rfl 31 _ _ rfl (w.heap.size) _ _ 31 (by have h:=oq.out.i;rw [U2.out] at h;exact h) rfl rfl rfl yK.out NV.out ?_;intro w22 lu lq rD;have rX:=abC lu;have eT:=abC lq;clear lu lq rD))
   all_goals (try simp only [Exit.then])
   refine bodyPost_ret (aN rfl _ _ (w.heap.size) 31 _ (0,0) _ _ rfl rX.out Tryz.underlying31 rfl yK.out rfl) rfl ?_
   exact ⟨_,_,rfl, .inr ⟨vX.out,rfl,rfl⟩,oq.out.b.trans ⟨eT.out.os,eT.out.tape,eT.out.output,eT.out.size,fun i hi=>eT.out.block i (abD hi oq.out.b.size) (by omega)⟩⟩
  | true =>
   have hE:=HE.out
   cases hok:iA fV fB nW fI with
   | false =>
    have vX:Hid ((true && true && iA fV fB nW fI)=false):=abC (by rw [hok];rfl)
    rw [hok] at hE
    simp only [Bool.false_eq_true,if_false] at hE
    subst hE
    clear hok
    go_wp2_with (first|((with_reducible show Calls _ 50 _ _ _);go_at_call 50; refine (Bu.out _ rR.out.cu).mono ?_;rintro e w13 ⟨rfl,hb⟩;have oq:=abC (rR.out.fresh hb);clear hb)|((with_reducible refine aS 62 ?_);refine wpList_build (by rfl) 31 _ rfl #[] rfl _ (HZ0.out _) ?_)|((with_reducible refine aT 2 ?_);refine au rfl 31 _ _ rfl (w.heap.size) _ _ 31 (by have h:=oq.out.i;rw [U2.out] at h;exact h) rfl rfl rfl yK.out NV.out ?_;intro w22 lu lq rD;have rX:=abC lu;have eT:=abC lq;clear lu lq rD))
    all_goals (try simp only [Exit.then])
    refine bodyPost_ret (aN rfl _ _ (w.heap.size) 31 _ (0,0) _ _ rfl rX.out Tryz.underlying31 rfl yK.out rfl) rfl ?_
    exact ⟨_,_,rfl, .inr ⟨vX.out,rfl,rfl⟩,oq.out.b.trans ⟨eT.out.os,eT.out.tape,eT.out.output,eT.out.size,fun i hi=>eT.out.block i (abD hi oq.out.b.size) (by omega)⟩⟩
   | true =>
    have vX:Hid ((true && true && iA fV fB nW fI)=true):=abC (by rw [hok];rfl)
    rw [hok] at hE
    simp only [if_true] at hE
    subst hE
    clear hok
    go_wp2_with (first|((with_reducible show Calls _ 50 _ _ _);go_at_call 50; refine (Bu.out _ rR.out.cu).mono ?_;rintro e w13 ⟨rfl,hb⟩;have oq:=abC (rR.out.fresh hb);clear hb)|((with_reducible refine aS 63 ?_);refine wpList_load_row rfl 31 _ rfl g6 rfl 31 _ (0,0) _ oq.out.m Tryz.underlying31 rfl yP.out ?_)|((with_reducible refine aT 2 ?_);refine au rfl 31 _ _ rfl (w.heap.size) _ _ 31 (by have h:=oq.out.i;rw [U2.out] at h;exact h) rfl rfl (by rw [Rk.out,bL Ib.out HLK.out HLG.out HLS.out,UD.out]) yP.out (by rw [Rk.out];exact gH rfl) ?_;intro w22 lu lq rD;have rX:=abC lu;have eT:=abC lq;clear lu lq rD))
    all_goals (try simp only [Exit.then])
    refine bodyPost_ret (aN rfl _ _ (w.heap.size) 31 _ (0,0) _ _ rfl rX.out Tryz.underlying31 rfl yP.out rfl) rfl ?_
    exact ⟨_,_,rfl, .inl ⟨vX.out,rfl,s10,c10,Rk.out,((oq.out.o (.slice s10 nW c10,fW) (by simp)).1.kept eT.out (fun k e he=>by have:=(oq.out.o (.slice s10 nW c10,fW) (by simp)).1.lt k e;omega)).mono (by omega)⟩,oq.out.b.trans ⟨eT.out.os,eT.out.tape,eT.out.output,eT.out.size,fun i hi=>eT.out.block i (abD hi oq.out.b.size) (by omega)⟩⟩
 | false =>
  have vX:Hid ((fE_ && false && iA fV fB nW fI)=false):=abC (by rw [Bool.and_false,Bool.false_and])
  go_wp2_with (first|((with_reducible show Calls _ 50 _ _ _);go_at_call 50; refine (Bu.out _ rR.out.cu).mono ?_;rintro e w13 ⟨rfl,hb⟩;have oq:=abC (rR.out.fresh hb);clear hb)|((with_reducible refine aS 62 ?_);refine wpList_build (by rfl) 31 _ rfl #[] rfl _ (HZ0.out _) ?_)|((with_reducible refine aT 2 ?_);refine au rfl 31 _ _ rfl (w.heap.size) _ _ 31 (by have h:=rR.out.i;rw [U2.out] at h;exact h) rfl rfl rfl yK.out NV.out ?_;intro w22 lu lq rD;have rX:=abC lu;have eT:=abC lq;clear lu lq rD))
  all_goals (try simp only [Exit.then])
  refine bodyPost_ret (aN rfl _ _ (w.heap.size) 31 _ (0,0) _ _ rfl rX.out Tryz.underlying31 rfl yK.out rfl) rfl ?_
  exact ⟨_,_,rfl, .inr ⟨vX.out,rfl,rfl⟩,rR.out.b.trans ⟨eT.out.os,eT.out.tape,eT.out.output,eT.out.size,fun i hi=>eT.out.block i (abD hi rR.out.b.size) (by omega)⟩⟩
end Go.Proofs.YthdgbgleklkaiaaGreatDoor.Mf
