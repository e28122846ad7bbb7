/- The document's points: The document's nought, base, many: The document. Condition: as each theorem says. -/

import Derived.Test.YthdgbgleklkaiaaGreatDoorQc12
import Derived.Test.YthdgbgleklkaiaaGreatDoorQc20
open Go.Lib renaming hid→abC
open List renaming replicate→abD,length_map→abF,length_set→abG,getD→abI,getElem?_set_ne→abJ,take_of_length_le→abL
open BitVec renaming ofInt→abE,toNat_or→abR
open Nat renaming reduceAdd→abH,zero_le→abK,le_of_eq→abM,mod_mul_mod→abN,mod_eq_of_lt→abQ
set_option linter.unusedSimpArgs false
set_option linter.unusedVariables false
set_option maxRecDepth 100000
set_option maxHeartbeats 16000000
namespace Go.Proofs.YthdgbgleklkaiaaGreatDoor.Rd
open Go.RowKit Lm Fp Cu
def Z0 (o:Option Value):Array Value:=match o with
 | some (.agg c)=>c
 | _ => #[]
theorem VE {f:Fill} {k:Nat} (h:f k=none) (i:Nat) (v:Value) (hi:i≠k):f.upd i v k=none:=by
 unfold Fill.upd
 rw [if_neg (fun e=>hi e.symm)]
 exact h
theorem nD (w:World):(zeroValue 127).run Tryz.prog w = .ok (.agg (arr .i64 (abD 64 0))) w:=by kernel_rfl
theorem EM:(Tryz.prog.info? 127).map (·.size)=some 64:=by kernel_rfl
theorem lI {xs:List Int} (h:xs.length=64):(Tryz.prog.info? 127).map (·.size)=some (arr .i64 xs).size:=by rw [aD,h];exact EM
theorem KS {xs:List Int} (h:xs.length=64):(Tryz.prog.info? 127).map (·.size)=some xs.length:=by rw [h];exact EM
theorem abB {a b c d:List Int} (ha:a.length=16) (hb:b.length=16) (hc:c.length=16) (hd:d.length=16):(a ++ b ++ c ++ d).length=64:=by simp [ha,hb,hc,hd]
theorem rE (k:IntKind) (a b c d:List Int) (n:Nat) (ha:a.length=n) (hb:b.length=n) (hc:c.length=n) (hd:d.length=n) :
  ((arr k (a ++ b ++ c ++ d)).toList.drop 0).take a.length=a.map (Value.int k)∧((arr k (a ++ b ++ c ++ d)).toList.drop n).take b.length=b.map (Value.int k) ∧
  ((arr k (a ++ b ++ c ++ d)).toList.drop (n+n)).take c.length=c.map (Value.int k)∧((arr k (a ++ b ++ c ++ d)).toList.drop (n+n+n)).take d.length=d.map (Value.int k):=by
 have e:a ++ b ++ c ++ d=a ++ (b ++ (c ++ d)):=by simp only [List.append_assoc]
 have _:=hd
 rw [e]
 exact TK k a b c d n ha hb hc
theorem qm (a b c d:List Int) (ha:a.length=16) (hb:b.length=16) (hc:c.length=16) (hd:d.length=16) (w:World) :
  (Instr.build 127 #[(0, .agg (arr .i64 a)),(1, .agg (arr .i64 b)),(2, .agg (arr .i64 c)),(3, .agg (arr .i64 d))]).run Tryz.prog w = .ok (.agg (arr .i64 (a ++ b ++ c ++ d))) w:=by
 unfold Instr.build
 simp only [Sem.run_bind,nD,Result.andThen_ok,run_underlying Tryz.underlying127]
 refine (congrArg (fun R=>Result.andThen R _) (show _=Result.ok #[((0:Nat),16),(16,16),(2 * 16,16),(3 * 16,16)] w from ?h)).trans ?_
 case h=>kernel_rfl
 simp only [Result.andThen_ok]
 rw [show (Value.agg (arr .i64 (abD 64 0))).cells=arr .i64 (abD 64 0) from rfl,fill4 .i64 16 a b c d (abD 64 0) ha hb hc hd (by simp)]
 rfl
theorem rF {P:Program} {o:Oper} {ev:Operand→Value} {w:World} (t:TypeId) (ps:Array (Nat×Operand)) (ho:o.op = .build t ps) (vs:Array (Nat×Value)) (hvs:ps.toList.map (fun p=>(p.1,ev p.2))=vs.toList) (v:Value) (hrun:(Instr.build t vs).run P w = .ok v w):(execOp ev o).run P w = .ok (.value v) w:=by
 have hv:ps.map (fun p=>(p.1,ev p.2))=vs:=by apply Array.toList_inj.1;rw [Array.toList_map];exact hvs
 simp only [execOp,ho,hv,Sem.run_bind,hrun,Result.andThen_ok]
 rfl
theorem mo:UC Tryz.prog 125 16:=⟨⟨_, Tryz.underlying125, rfl⟩,by kernel_rfl⟩
theorem rowQ:UC Tryz.prog 127 64:=⟨⟨_, Tryz.underlying127, rfl⟩,EM⟩
theorem Ea (w:World):(Instr.build 125 #[]).run Tryz.prog w = .ok (.agg (arr .i64 (abD 16 0))) w:=by kernel_rfl
theorem Ut (w:World):(Instr.build 127 #[]).run Tryz.prog w = .ok (.agg (arr .i64 (abD 64 0))) w:=by kernel_rfl
def mE (vs:List Int) (P:Pt):Prop:=∃ x y z t,vs=x ++ y ++ z ++ t∧El x P.x∧El y P.y∧El z P.z∧El t P.t
theorem mE.len {vs:List Int} {P:Pt} (h:mE vs P):vs.length=64:=by
 obtain ⟨x,y,z,t,rfl,h1,h2,h3,h4⟩:=h
 exact abB h1.1 h2.1 h3.1 h4.1
def dL:List Int:=[0x78a3,0x1359,0x4dca,0x75eb,0xd8ab,0x4141,0xa4d,0x70,0xe898,0x7779,0x4079,0x8cc7,0xfe73,0x2b6f,0x6cee,0x5203]
def xL:List Int:=[0xd51a,0x8f25,0x2d60,0xc956,0xa7b2,0x9525,0xc760,0x692c,0xdc5c,0xfdd6,0xe231,0xc0a4,0x53fe,0xcd6e,0x36d3,0x2169]
def yL:List Int:=[0x6658,0x6666,0x6666,0x6666,0x6666,0x6666,0x6666,0x6666,0x6666,0x6666,0x6666,0x6666,0x6666,0x6666,0x6666,0x6666]
theorem dL_el:El dL dd:=by refine ⟨rfl,by decide +kernel,by decide +kernel⟩
theorem xL_el:El xL bx:=by refine ⟨rfl,by decide +kernel,by decide +kernel⟩
theorem yL_el:El yL bY:=by refine ⟨rfl,by decide +kernel,by decide +kernel⟩
def vK (w:World):Prop:=w.rangeAt 3 0 (dL.map (Value.int .i64))
def Uz (w:World):Prop:=w.rangeAt 1 0 (xL.map (Value.int .i64))
def Uy (w:World):Prop:=w.rangeAt 2 0 (yL.map (Value.int .i64))
theorem Lc (a b c:Nat):aA (aA a b) c=aA (aA a c) b:=by
 unfold aA
 rw [abN,abN,Nat.mul_right_comm]
theorem TN (a b:Nat):aA a b=aA b a:=by unfold aA;rw [Nat.mul_comm]
theorem mul_two (a b:Nat):aL (aA a b) (aA a b)=aA a (aL b b):=by
 unfold aL aA
 rw [← Nat.add_mod,Nat.mul_mod_mod,Nat.mul_add]
theorem sO (ps qs:List Int) (P Q:Pt) (w:World) (hp:mE ps P) (hq:mE qs Q) (hT:vK w) :
  Calls Tryz.prog 112 #[.agg (arr .i64 ps), .agg (arr .i64 qs)] w fun e w'=>∃ zs,e = .returned (.agg (arr .i64 zs))∧mE zs (iB P Q)∧Below w.heap.size w w':=by
 have HmW:=abC hp.len
 obtain ⟨mx,my,mz,mt,hme,hmx,qO,hmz,hmt⟩:=hp
 have Hmx:=abC hmx
 have HmxL:=abC hmx.1
 have Hmy:=abC qO
 have HmyL:=abC qO.1
 have Hmz:=abC hmz
 have HmzL:=abC hmz.1
 have Hmt:=abC hmt
 have HmtL:=abC hmt.1
 have hmP:=rE .i64 mx my mz mt 16 hmx.1 qO.1 hmz.1 hmt.1
 rw [← hme] at hmP
 have HmP:=abC hmP
 clear hmx qO hmz hmt hme hmP
 have HoW:=abC hq.len
 obtain ⟨ox,oy,oz,ot,hoe,hox,hoy,hoz,hot⟩:=hq
 have Hox:=abC hox
 have HoxL:=abC hox.1
 have Hoy:=abC hoy
 have HoyL:=abC hoy.1
 have Hoz:=abC hoz
 have HozL:=abC hoz.1
 have Hot:=abC hot
 have HotL:=abC hot.1
 have hoP:=rE .i64 ox oy oz ot 16 hox.1 hoy.1 hoz.1 hot.1
 rw [← hoe] at hoP
 have HoP:=abC hoP
 clear hox hoy hoz hot hoe hoP
 obtain ⟨dl,hdl⟩:∃ x,x=dL:=⟨_,rfl⟩
 have HD:Hid (El dl dd):=abC (by rw [hdl];exact dL_el)
 have yQ:=abC HD.out.1
 unfold vK at hT
 rw [← hdl] at hT
 have HT:=abC hT
 obtain ⟨ze,iO,dO,dG⟩:=zN gM
 obtain ⟨zp,yE,xS,jF⟩:=zN nD
 have bW:=abC (bO.three w (arr .i64 ps) (arr .i64 qs) (arr .i64 zp) 127 127 127)
 clear iO yE hdl hT
 go_enter Tryz.func112, Tryz.ntmps112
 go_upto_region 1 with (first|((with_reducible refine aS 4 ?_);refine ah rfl 127 rfl _ (xS.out _) ?_))
 (try simp only [World.size_alloc,Act.put,sA,sZ,sS])
 generalize (((w.alloc (.cells (arr .i64 ps) 127)).alloc (.cells (arr .i64 qs) 127)).alloc (.cells (arr .i64 zp) 127))=wb at bW ⊢
 refine gV (T:=fun _=>False) (w:=w) (sy:=[Yp (w.heap.size) 16,Yr .i64 my,Yp (w.heap.size) 0,Yr .i64 mx,Ys .i64 (fun z=>El z (bf P.y P.x)),Yp (w.heap.size+1) 16,Yr .i64 oy,Yp (w.heap.size+1) 0,Yr .i64 ox,Ys .i64 (fun z=>El z (bf Q.y Q.x)),Ys .i64 (fun z=>El z (aA (bf P.y P.x) (bf Q.y Q.x))),Yn (arr .i64 ze) 125, Y0]) (pt:=[(12,14,Uk .i64 (fun z=>El z (aA (bf P.y P.x) (bf Q.y Q.x))) 125)]) (by kernel_rfl) (by kernel_rfl) (by kernel_rfl) bW.out.holds (fun hW=>?sa1) (fun qa1 xa1 ua1 _ hH=>?ea1)
 case sa1 =>
  refine jH hW ?_
  refine vM hW ?_ 0 16 (arr .i64 ps) 127 mo HmyL.out (HmP.out.2.1)
  refine jH hW ?_
  refine vM hW ?_ 0 0 (arr .i64 ps) 127 mo HmxL.out (HmP.out.1)
  refine vN hW ?_ (k := .i64) (R:=(fun z=>El z (bf P.y P.x))) (.h (.agg (arr .i64 my))) (.h (.agg (arr .i64 mx))) (fun _ _ _ hA hB=>by cases hA;cases hB;exact jm _ _ _ _ _ Hmy.out Hmx.out)
  refine jH hW ?_
  refine vM hW ?_ 1 16 (arr .i64 qs) 127 mo HoyL.out (HoP.out.2.1)
  refine jH hW ?_
  refine vM hW ?_ 1 0 (arr .i64 qs) 127 mo HoxL.out (HoP.out.1)
  refine vN hW ?_ (k := .i64) (R:=(fun z=>El z (bf Q.y Q.x))) (.h (.agg (arr .i64 oy))) (.h (.agg (arr .i64 ox))) (fun _ _ _ hA hB=>by cases hA;cases hB;exact jm _ _ _ _ _ Hoy.out Hox.out)
  refine vN hW ?_ (k := .i64) (R:=(fun z=>El z (aA (bf P.y P.x) (bf Q.y Q.x)))) (.s 4 .i64 (fun z=>El z (bf P.y P.x))) (.s 9 .i64 (fun z=>El z (bf Q.y Q.x))) (fun _ _ _ hA hB=>by obtain ⟨xa1_4,rfl,hz⟩:=hA;have Ra1_4:=abC hz;have HLa1_4:=abC (show xa1_4.length=_ from hz.1);obtain ⟨xa1_9,rfl,hz⟩:=hB;have Ra1_9:=abC hz;have HLa1_9:=abC (show xa1_9.length=_ from hz.1);exact bM _ _ _ _ _ Ra1_4.out Ra1_9.out)
  refine SyA hW ?_ dO.out
  refine SySr hW ?_ (k := .i64) (R:=(fun z=>El z (aA (bf P.y P.x) (bf Q.y Q.x)))) (t := 125) (p:=Cj (arr .i64 ze) 125) 14 10 mo (fun z h=>h.1) (fun o h=>⟨_,h,asz dG.out⟩) (by kernel_rfl) (by kernel_rfl)
  exact SyN
 case ea1 =>
 obtain ⟨yS,hz,hH⟩:=hH.opn 14 (g:=(qa1 11)) (k := .i64) (R:=(fun z=>El z (aA (bf P.y P.x) (bf Q.y Q.x)))) (t := 125) (by kernel_rfl)
 have QX:=abC hz
 have Q5:=abC (show yS.length=_ from hz.1)
 clear hz
 have HBa1:=abC (hH.blk [0,1,2,14] [(w.heap.size,arr .i64 ps, 127),(w.heap.size+1,arr .i64 qs, 127),(w.heap.size+1+1,arr .i64 zp, 127),((qa1 11),arr .i64 yS, 125)] (by decide) (by kernel_rfl))
 simp only [lay,Sy.at,CQ,Yr,Yv,Yp,Yq,Yn,Y0,Ys,Act.put,sA,sZ,sS,abH]
 clear hH bW
 (try simp only [Exit.then])
 go_upto_region 2 with fail
 refine gV (T:=fun _=>False) (w:=w) (sy:=[Yp (w.heap.size) 16,Yr .i64 my,Yp (w.heap.size) 0,Yr .i64 mx,Ys .i64 (fun z=>El z (aL P.y P.x)),Yp (w.heap.size+1) 16,Yr .i64 oy,Yp (w.heap.size+1) 0,Yr .i64 ox,Ys .i64 (fun z=>El z (aL Q.y Q.x)),Ys .i64 (fun z=>El z (aA (aL P.y P.x) (aL Q.y Q.x))),Yn (arr .i64 ze) 125, Y0]) (pt:=[(12,15,Uk .i64 (fun z=>El z (aA (aL P.y P.x) (aL Q.y Q.x))) 125)]) (by kernel_rfl) (by kernel_rfl) (by kernel_rfl) HBa1.out.holds (fun hW=>?sa2) (fun qa2 xa2 ua2 _ hH=>?ea2)
 case sa2 =>
  refine jH hW ?_
  refine vM hW ?_ 0 16 (arr .i64 ps) 127 mo HmyL.out (HmP.out.2.1)
  refine jH hW ?_
  refine vM hW ?_ 0 0 (arr .i64 ps) 127 mo HmxL.out (HmP.out.1)
  refine vN hW ?_ (k := .i64) (R:=(fun z=>El z (aL P.y P.x))) (.h (.agg (arr .i64 my))) (.h (.agg (arr .i64 mx))) (fun _ _ _ hA hB=>by cases hA;cases hB;exact iZ _ _ _ _ _ Hmy.out Hmx.out)
  refine jH hW ?_
  refine vM hW ?_ 1 16 (arr .i64 qs) 127 mo HoyL.out (HoP.out.2.1)
  refine jH hW ?_
  refine vM hW ?_ 1 0 (arr .i64 qs) 127 mo HoxL.out (HoP.out.1)
  refine vN hW ?_ (k := .i64) (R:=(fun z=>El z (aL Q.y Q.x))) (.h (.agg (arr .i64 oy))) (.h (.agg (arr .i64 ox))) (fun _ _ _ hA hB=>by cases hA;cases hB;exact iZ _ _ _ _ _ Hoy.out Hox.out)
  refine vN hW ?_ (k := .i64) (R:=(fun z=>El z (aA (aL P.y P.x) (aL Q.y Q.x)))) (.s 4 .i64 (fun z=>El z (aL P.y P.x))) (.s 9 .i64 (fun z=>El z (aL Q.y Q.x))) (fun _ _ _ hA hB=>by obtain ⟨xa2_4,rfl,hz⟩:=hA;have Ra2_4:=abC hz;have HLa2_4:=abC (show xa2_4.length=_ from hz.1);obtain ⟨xa2_9,rfl,hz⟩:=hB;have Ra2_9:=abC hz;have HLa2_9:=abC (show xa2_9.length=_ from hz.1);exact bM _ _ _ _ _ Ra2_4.out Ra2_9.out)
  refine SyA hW ?_ dO.out
  refine SySr hW ?_ (k := .i64) (R:=(fun z=>El z (aA (aL P.y P.x) (aL Q.y Q.x)))) (t := 125) (p:=Cj (arr .i64 ze) 125) 15 10 mo (fun z h=>h.1) (fun o h=>⟨_,h,asz dG.out⟩) (by kernel_rfl) (by kernel_rfl)
  exact SyN
 case ea2 =>
 obtain ⟨Ez,hz,hH⟩:=hH.opn 15 (g:=(qa2 11)) (k := .i64) (R:=(fun z=>El z (aA (aL P.y P.x) (aL Q.y Q.x)))) (t := 125) (by kernel_rfl)
 have QW:=abC hz
 have Q0:=abC (show Ez.length=_ from hz.1)
 clear hz
 have HBa2:=abC (hH.blk [0,1,2,3,15] [(w.heap.size,arr .i64 ps, 127),(w.heap.size+1,arr .i64 qs, 127),(w.heap.size+1+1,arr .i64 zp, 127),((qa1 11),arr .i64 yS, 125),((qa2 11),arr .i64 Ez, 125)] (by decide) (by kernel_rfl))
 simp only [lay,Sy.at,CQ,Yr,Yv,Yp,Yq,Yn,Y0,Ys,Act.put,sA,sZ,sS,abH]
 clear hH HBa1
 (try simp only [Exit.then])
 go_upto_region 3 with fail
 refine gV (T:=fun _=>False) (w:=w) (sy:=[Yp (w.heap.size) 48,Yr .i64 mt,Yp (w.heap.size+1) 48,Yr .i64 ot,Ys .i64 (fun z=>El z (aA P.t Q.t)),Yr .i64 dl,Yr .i64 dl,Ys .i64 (fun z=>El z (aL dd dd)),Ys .i64 (fun z=>El z (aA (aA P.t Q.t) (aL dd dd))),Yn (arr .i64 ze) 125, Y0]) (pt:=[(10,14,Uk .i64 (fun z=>El z (aA (aA P.t Q.t) (aL dd dd))) 125)]) (by kernel_rfl) (by kernel_rfl) (by kernel_rfl) HBa2.out.holds (fun hW=>?sa3) (fun qa3 xa3 ua3 _ hH=>?ea3)
 case sa3 =>
  refine jH hW ?_
  refine vM hW ?_ 0 48 (arr .i64 ps) 127 mo HmtL.out (HmP.out.2.2.2)
  refine jH hW ?_
  refine vM hW ?_ 1 48 (arr .i64 qs) 127 mo HotL.out (HoP.out.2.2.2)
  refine vN hW ?_ (k := .i64) (R:=(fun z=>El z (aA P.t Q.t))) (.h (.agg (arr .i64 mt))) (.h (.agg (arr .i64 ot))) (fun _ _ _ hA hB=>by cases hA;cases hB;exact bM _ _ _ _ _ Hmt.out Hot.out)
  refine SyG hW ?_ (fun u b K k h=>by refine wp_load_mid 125 (.global 3) rfl 3 0 rfl (dl.map (Value.int .i64)) _ (bC HT.out (Kept.toBelow k (Nat.le_refl _) (fun _ e=>e.elim))) Tryz.underlying125 rfl (by rw [abF];exact bK yQ.out) h)
  refine SyG hW ?_ (fun u b K k h=>by refine wp_load_mid 125 (.global 3) rfl 3 0 rfl (dl.map (Value.int .i64)) _ (bC HT.out (Kept.toBelow k (Nat.le_refl _) (fun _ e=>e.elim))) Tryz.underlying125 rfl (by rw [abF];exact bK yQ.out) h)
  refine vN hW ?_ (k := .i64) (R:=(fun z=>El z (aL dd dd))) (.h (.agg (arr .i64 dl))) (.h (.agg (arr .i64 dl))) (fun _ _ _ hA hB=>by cases hA;cases hB;exact iZ _ _ _ _ _ HD.out HD.out)
  refine vN hW ?_ (k := .i64) (R:=(fun z=>El z (aA (aA P.t Q.t) (aL dd dd)))) (.s 4 .i64 (fun z=>El z (aA P.t Q.t))) (.s 7 .i64 (fun z=>El z (aL dd dd))) (fun _ _ _ hA hB=>by obtain ⟨xa3_4,rfl,hz⟩:=hA;have Ra3_4:=abC hz;have HLa3_4:=abC (show xa3_4.length=_ from hz.1);obtain ⟨xa3_7,rfl,hz⟩:=hB;have Ra3_7:=abC hz;have HLa3_7:=abC (show xa3_7.length=_ from hz.1);exact bM _ _ _ _ _ Ra3_4.out Ra3_7.out)
  refine SyA hW ?_ dO.out
  refine SySr hW ?_ (k := .i64) (R:=(fun z=>El z (aA (aA P.t Q.t) (aL dd dd)))) (t := 125) (p:=Cj (arr .i64 ze) 125) 14 8 mo (fun z h=>h.1) (fun o h=>⟨_,h,asz dG.out⟩) (by kernel_rfl) (by kernel_rfl)
  exact SyN
 case ea3 =>
 obtain ⟨Kr,hz,hH⟩:=hH.opn 14 (g:=(qa3 9)) (k := .i64) (R:=(fun z=>El z (aA (aA P.t Q.t) (aL dd dd)))) (t := 125) (by kernel_rfl)
 have QU:=abC hz
 have QZ:=abC (show Kr.length=_ from hz.1)
 clear hz
 have HBa3:=abC (hH.blk [0,1,2,3,4,14] [(w.heap.size,arr .i64 ps, 127),(w.heap.size+1,arr .i64 qs, 127),(w.heap.size+1+1,arr .i64 zp, 127),((qa1 11),arr .i64 yS, 125),((qa2 11),arr .i64 Ez, 125),((qa3 9),arr .i64 Kr, 125)] (by decide) (by kernel_rfl))
 simp only [lay,Sy.at,CQ,Yr,Yv,Yp,Yq,Yn,Y0,Ys,Act.put,sA,sZ,sS,abH]
 clear hH HBa2
 (try simp only [Exit.then])
 go_upto_region 5 with (first|((with_reducible refine aS 45 ?_);refine aB rfl 125 _ rfl (w.heap.size) (32) _ 127 (0,0) _ (HBa3.out.get 0 rfl) rfl .i64 mz (HmP.out.2.2.1) Tryz.underlying125 rfl (bK HmzL.out) ?_)|((with_reducible refine aS 47 ?_);refine aB rfl 125 _ rfl (w.heap.size+1) (32) _ 127 (0,0) _ (HBa3.out.get 1 rfl) rfl .i64 oz (HoP.out.2.2.1) Tryz.underlying125 rfl (bK HozL.out) ?_)|((with_reducible show Calls _ 132 #[.agg _, .agg _] _ _);go_at_call 132; refine lZ (bM _ _ _ _ _ Hmz.out Hoz.out) HBa3 ?_;intro z101 w101 aaT HB101;have J3:=abC aaT.out.1)|((with_reducible refine aS 8 ?_);refine lA rfl rfl (dO.out _) HB101 ?_;intro g102 Vt Cc; clear HB101)|((with_reducible refine aT 8 (x:=(Operand.tmp 48)) ?_);refine lS rfl rfl Cc 6 rfl rfl rfl (av _ _ J3.out dG.out) (dx J3.out) (ak _ _) ?_;intro Vs uJ;clear Cc))
 go_upto_region 6 with (first|((with_reducible refine aS 49 ?_);refine lL rfl rfl (uJ.out.get 6 rfl) rfl (aj _ _) Tryz.underlying125 rfl (bK J3.out) ?_)|((with_reducible refine aS 50 ?_);refine lL rfl rfl (uJ.out.get 6 rfl) rfl (aj _ _) Tryz.underlying125 rfl (bK J3.out) ?_)|((with_reducible show Calls _ 142 #[.agg _, .agg _] _ _);go_at_call 142; refine lZ (iZ _ _ _ _ _ aaT.out aaT.out) uJ ?_;intro z104 w104 aaP uI;have Rj:=abC aaP.out.1;clear uJ)|((with_reducible refine aT 8 (x:=(Operand.tmp 51)) ?_);refine lS rfl rfl uI 6 rfl rfl rfl (av _ _ Rj.out J3.out) (dx Rj.out) (ak _ _) ?_;intro w105 Ev;clear uI))
 go_upto_region 7 with (first|((with_reducible refine aS 52 ?_);refine lL rfl rfl (Ev.out.get 4 rfl) rfl (aj _ _) Tryz.underlying125 rfl (bK Q0.out) ?_)|((with_reducible refine aS 53 ?_);refine lL rfl rfl (Ev.out.get 3 rfl) rfl (aj _ _) Tryz.underlying125 rfl (bK Q5.out) ?_)|((with_reducible show Calls _ 143 #[.agg _, .agg _] _ _);go_at_call 143; refine lZ (jm _ _ _ _ _ QW.out QX.out) Ev ?_;intro Kq w106 aaN Eu;have Ri:=abC aaN.out.1;clear Ev)|((with_reducible refine aS 9 ?_);refine lA rfl rfl (dO.out _) Eu ?_;intro g107 w107 BZ; clear Eu)|((with_reducible refine aT 9 (x:=(Operand.tmp 54)) ?_);refine lS rfl rfl BZ 7 rfl rfl rfl (av _ _ Ri.out dG.out) (dx Ri.out) (ak _ _) ?_;intro w108 xC;clear BZ))
 go_upto_region 8 with (first|((with_reducible refine aS 55 ?_);refine lL rfl rfl (xC.out.get 6 rfl) rfl (aj _ _) Tryz.underlying125 rfl (bK Rj.out) ?_)|((with_reducible refine aS 56 ?_);refine lL rfl rfl (xC.out.get 5 rfl) rfl (aj _ _) Tryz.underlying125 rfl (bK QZ.out) ?_)|((with_reducible show Calls _ 143 #[.agg _, .agg _] _ _);go_at_call 143; refine lZ (jm _ _ _ _ _ aaP.out QU.out) xC ?_;intro z109 w109 aaK Et;have Rh:=abC aaK.out.1;clear xC)|((with_reducible refine aS 10 ?_);refine lA rfl rfl (dO.out _) Et ?_;intro g110 w110 Rv; clear Et)|((with_reducible refine aT 10 (x:=(Operand.tmp 57)) ?_);refine lS rfl rfl Rv 8 rfl rfl rfl (av _ _ Rh.out dG.out) (dx Rh.out) (ak _ _) ?_;intro w111 BU;clear Rv))
 go_upto_region 9 with (first|((with_reducible refine aS 58 ?_);refine lL rfl rfl (BU.out.get 6 rfl) rfl (aj _ _) Tryz.underlying125 rfl (bK Rj.out) ?_)|((with_reducible refine aS 59 ?_);refine lL rfl rfl (BU.out.get 5 rfl) rfl (aj _ _) Tryz.underlying125 rfl (bK QZ.out) ?_)|((with_reducible show Calls _ 142 #[.agg _, .agg _] _ _);go_at_call 142; refine lZ (iZ _ _ _ _ _ aaP.out QU.out) BU ?_;intro Ko w112 aaJ Ru;have Rf:=abC aaJ.out.1;clear BU)|((with_reducible refine aS 11 ?_);refine lA rfl rfl (dO.out _) Ru ?_;intro g113 w113 HB113; clear Ru)|((with_reducible refine aT 11 (x:=(Operand.tmp 60)) ?_);refine lS rfl rfl HB113 9 rfl rfl rfl (av _ _ Rf.out dG.out) (dx Rf.out) (ak _ _) ?_;intro w114 Rt;clear HB113))
 go_upto_region 10 with (first|((with_reducible refine aS 61 ?_);refine lL rfl rfl (Rt.out.get 4 rfl) rfl (aj _ _) Tryz.underlying125 rfl (bK Q0.out) ?_)|((with_reducible refine aS 62 ?_);refine lL rfl rfl (Rt.out.get 3 rfl) rfl (aj _ _) Tryz.underlying125 rfl (bK Q5.out) ?_)|((with_reducible show Calls _ 142 #[.agg _, .agg _] _ _);go_at_call 142; refine lZ (iZ _ _ _ _ _ QW.out QX.out) Rt ?_;intro Kn w115 aaI HB115;have Rc:=abC aaI.out.1;clear Rt)|((with_reducible refine aS 12 ?_);refine lA rfl rfl (dO.out _) HB115 ?_;intro g116 w116 Rs; clear HB115)|((with_reducible refine aT 12 (x:=(Operand.tmp 63)) ?_);refine lS rfl rfl Rs 10 rfl rfl rfl (av _ _ Rc.out dG.out) (dx Rc.out) (ak _ _) ?_;intro w117 Rq;clear Rs))
 refine gV (T:=fun _=>False) (w:=w) (sy:=[Yr .i64 Kq,Yr .i64 z109,Ys .i64 (fun z=>El z (aA (bf (aA (aL P.y P.x) (aL Q.y Q.x)) (aA (bf P.y P.x) (bf Q.y Q.x))) (bf (aL (aA P.z Q.z) (aA P.z Q.z)) (aA (aA P.t Q.t) (aL dd dd))))),Yr .i64 Kn,Yr .i64 Ko,Ys .i64 (fun z=>El z (aA (aL (aA (aL P.y P.x) (aL Q.y Q.x)) (aA (bf P.y P.x) (bf Q.y Q.x))) (aL (aL (aA P.z Q.z) (aA P.z Q.z)) (aA (aA P.t Q.t) (aL dd dd))))),Yr .i64 z109,Yr .i64 Ko,Ys .i64 (fun z=>El z (aA (bf (aL (aA P.z Q.z) (aA P.z Q.z)) (aA (aA P.t Q.t) (aL dd dd))) (aL (aL (aA P.z Q.z) (aA P.z Q.z)) (aA (aA P.t Q.t) (aL dd dd))))),Yr .i64 Kq,Yr .i64 Kn,Ys .i64 (fun z=>El z (aA (bf (aA (aL P.y P.x) (aL Q.y Q.x)) (aA (bf P.y P.x) (bf Q.y Q.x))) (aL (aA (aL P.y P.x) (aL Q.y Q.x)) (aA (bf P.y P.x) (bf Q.y Q.x))))),Ys .i64 (fun z=>mE z (⟨(aA (bf (aA (aL P.y P.x) (aL Q.y Q.x)) (aA (bf P.y P.x) (bf Q.y Q.x))) (bf (aL (aA P.z Q.z) (aA P.z Q.z)) (aA (aA P.t Q.t) (aL dd dd)))),(aA (aL (aA (aL P.y P.x) (aL Q.y Q.x)) (aA (bf P.y P.x) (bf Q.y Q.x))) (aL (aL (aA P.z Q.z) (aA P.z Q.z)) (aA (aA P.t Q.t) (aL dd dd)))),(aA (bf (aL (aA P.z Q.z) (aA P.z Q.z)) (aA (aA P.t Q.t) (aL dd dd))) (aL (aL (aA P.z Q.z) (aA P.z Q.z)) (aA (aA P.t Q.t) (aL dd dd)))),(aA (bf (aA (aL P.y P.x) (aL Q.y Q.x)) (aA (bf P.y P.x) (bf Q.y Q.x))) (aL (aA (aL P.y P.x) (aL Q.y Q.x)) (aA (bf P.y P.x) (bf Q.y Q.x))))⟩:Pt)),Y0]) (pt:=[(13,2,Uk .i64 (fun z=>mE z (⟨(aA (bf (aA (aL P.y P.x) (aL Q.y Q.x)) (aA (bf P.y P.x) (bf Q.y Q.x))) (bf (aL (aA P.z Q.z) (aA P.z Q.z)) (aA (aA P.t Q.t) (aL dd dd)))),(aA (aL (aA (aL P.y P.x) (aL Q.y Q.x)) (aA (bf P.y P.x) (bf Q.y Q.x))) (aL (aL (aA P.z Q.z) (aA P.z Q.z)) (aA (aA P.t Q.t) (aL dd dd)))),(aA (bf (aL (aA P.z Q.z) (aA P.z Q.z)) (aA (aA P.t Q.t) (aL dd dd))) (aL (aL (aA P.z Q.z) (aA P.z Q.z)) (aA (aA P.t Q.t) (aL dd dd)))),(aA (bf (aA (aL P.y P.x) (aL Q.y Q.x)) (aA (bf P.y P.x) (bf Q.y Q.x))) (aL (aA (aL P.y P.x) (aL Q.y Q.x)) (aA (bf P.y P.x) (bf Q.y Q.x))))⟩:Pt)) 127)]) (by kernel_rfl) (by kernel_rfl) (by kernel_rfl) Rq.out.holds (fun hW=>?sa10) (fun qa10 xa10 ua10 _ hH=>?ea10)
 case sa10 =>
  refine vM hW ?_ 7 0 (arr .i64 Kq) 125 mo Ri.out (aj _ _)
  refine vM hW ?_ 8 0 (arr .i64 z109) 125 mo Rh.out (aj _ _)
  refine vN hW ?_ (k := .i64) (R:=(fun z=>El z (aA (bf (aA (aL P.y P.x) (aL Q.y Q.x)) (aA (bf P.y P.x) (bf Q.y Q.x))) (bf (aL (aA P.z Q.z) (aA P.z Q.z)) (aA (aA P.t Q.t) (aL dd dd)))))) (.h (.agg (arr .i64 Kq))) (.h (.agg (arr .i64 z109))) (fun _ _ _ hA hB=>by cases hA;cases hB;exact bM _ _ _ _ _ aaN.out aaK.out)
  refine vM hW ?_ 10 0 (arr .i64 Kn) 125 mo Rc.out (aj _ _)
  refine vM hW ?_ 9 0 (arr .i64 Ko) 125 mo Rf.out (aj _ _)
  refine vN hW ?_ (k := .i64) (R:=(fun z=>El z (aA (aL (aA (aL P.y P.x) (aL Q.y Q.x)) (aA (bf P.y P.x) (bf Q.y Q.x))) (aL (aL (aA P.z Q.z) (aA P.z Q.z)) (aA (aA P.t Q.t) (aL dd dd)))))) (.h (.agg (arr .i64 Kn))) (.h (.agg (arr .i64 Ko))) (fun _ _ _ hA hB=>by cases hA;cases hB;exact bM _ _ _ _ _ aaI.out aaJ.out)
  refine vM hW ?_ 8 0 (arr .i64 z109) 125 mo Rh.out (aj _ _)
  refine vM hW ?_ 9 0 (arr .i64 Ko) 125 mo Rf.out (aj _ _)
  refine vN hW ?_ (k := .i64) (R:=(fun z=>El z (aA (bf (aL (aA P.z Q.z) (aA P.z Q.z)) (aA (aA P.t Q.t) (aL dd dd))) (aL (aL (aA P.z Q.z) (aA P.z Q.z)) (aA (aA P.t Q.t) (aL dd dd)))))) (.h (.agg (arr .i64 z109))) (.h (.agg (arr .i64 Ko))) (fun _ _ _ hA hB=>by cases hA;cases hB;exact bM _ _ _ _ _ aaK.out aaJ.out)
  refine vM hW ?_ 7 0 (arr .i64 Kq) 125 mo Ri.out (aj _ _)
  refine vM hW ?_ 10 0 (arr .i64 Kn) 125 mo Rc.out (aj _ _)
  refine vN hW ?_ (k := .i64) (R:=(fun z=>El z (aA (bf (aA (aL P.y P.x) (aL Q.y Q.x)) (aA (bf P.y P.x) (bf Q.y Q.x))) (aL (aA (aL P.y P.x) (aL Q.y Q.x)) (aA (bf P.y P.x) (bf Q.y Q.x)))))) (.h (.agg (arr .i64 Kq))) (.h (.agg (arr .i64 Kn))) (fun _ _ _ hA hB=>by cases hA;cases hB;exact bM _ _ _ _ _ aaN.out aaI.out)
  refine SyB4 hW ?_ (k := .i64) (R:=(fun z=>mE z (⟨(aA (bf (aA (aL P.y P.x) (aL Q.y Q.x)) (aA (bf P.y P.x) (bf Q.y Q.x))) (bf (aL (aA P.z Q.z) (aA P.z Q.z)) (aA (aA P.t Q.t) (aL dd dd)))),(aA (aL (aA (aL P.y P.x) (aL Q.y Q.x)) (aA (bf P.y P.x) (bf Q.y Q.x))) (aL (aL (aA P.z Q.z) (aA P.z Q.z)) (aA (aA P.t Q.t) (aL dd dd)))),(aA (bf (aL (aA P.z Q.z) (aA P.z Q.z)) (aA (aA P.t Q.t) (aL dd dd))) (aL (aL (aA P.z Q.z) (aA P.z Q.z)) (aA (aA P.t Q.t) (aL dd dd)))),(aA (bf (aA (aL P.y P.x) (aL Q.y Q.x)) (aA (bf P.y P.x) (bf Q.y Q.x))) (aL (aA (aL P.y P.x) (aL Q.y Q.x)) (aA (bf P.y P.x) (bf Q.y Q.x))))⟩:Pt))) (.s 2 .i64 (fun z=>El z (aA (bf (aA (aL P.y P.x) (aL Q.y Q.x)) (aA (bf P.y P.x) (bf Q.y Q.x))) (bf (aL (aA P.z Q.z) (aA P.z Q.z)) (aA (aA P.t Q.t) (aL dd dd)))))) (.s 5 .i64 (fun z=>El z (aA (aL (aA (aL P.y P.x) (aL Q.y Q.x)) (aA (bf P.y P.x) (bf Q.y Q.x))) (aL (aL (aA P.z Q.z) (aA P.z Q.z)) (aA (aA P.t Q.t) (aL dd dd)))))) (.s 8 .i64 (fun z=>El z (aA (bf (aL (aA P.z Q.z) (aA P.z Q.z)) (aA (aA P.t Q.t) (aL dd dd))) (aL (aL (aA P.z Q.z) (aA P.z Q.z)) (aA (aA P.t Q.t) (aL dd dd)))))) (.s 11 .i64 (fun z=>El z (aA (bf (aA (aL P.y P.x) (aL Q.y Q.x)) (aA (bf P.y P.x) (bf Q.y Q.x))) (aL (aA (aL P.y P.x) (aL Q.y Q.x)) (aA (bf P.y P.x) (bf Q.y Q.x)))))) (fun _ _ _ _ hA hB hC hD=>by obtain ⟨xa10_2,rfl,hz⟩:=hA;have Ra10_2:=abC hz;have HLa10_2:=abC (show xa10_2.length=_ from hz.1);obtain ⟨xa10_5,rfl,hz⟩:=hB;have Ra10_5:=abC hz;have HLa10_5:=abC (show xa10_5.length=_ from hz.1);obtain ⟨xa10_8,rfl,hz⟩:=hC;have Ra10_8:=abC hz;have HLa10_8:=abC (show xa10_8.length=_ from hz.1);obtain ⟨xa10_11,rfl,hz⟩:=hD;have Ra10_11:=abC hz;have Jo:=abC (show xa10_11.length=_ from hz.1);exact ⟨_,qm _ _ _ _ HLa10_2.out HLa10_5.out HLa10_8.out Jo.out,⟨_,_,_,_,rfl,Ra10_2.out,Ra10_5.out,Ra10_8.out,Ra10_11.out⟩⟩)
  refine SySr hW ?_ (k := .i64) (R:=(fun z=>mE z (⟨(aA (bf (aA (aL P.y P.x) (aL Q.y Q.x)) (aA (bf P.y P.x) (bf Q.y Q.x))) (bf (aL (aA P.z Q.z) (aA P.z Q.z)) (aA (aA P.t Q.t) (aL dd dd)))),(aA (aL (aA (aL P.y P.x) (aL Q.y Q.x)) (aA (bf P.y P.x) (bf Q.y Q.x))) (aL (aL (aA P.z Q.z) (aA P.z Q.z)) (aA (aA P.t Q.t) (aL dd dd)))),(aA (bf (aL (aA P.z Q.z) (aA P.z Q.z)) (aA (aA P.t Q.t) (aL dd dd))) (aL (aL (aA P.z Q.z) (aA P.z Q.z)) (aA (aA P.t Q.t) (aL dd dd)))),(aA (bf (aA (aL P.y P.x) (aL Q.y Q.x)) (aA (bf P.y P.x) (bf Q.y Q.x))) (aL (aA (aL P.y P.x) (aL Q.y Q.x)) (aA (bf P.y P.x) (bf Q.y Q.x))))⟩:Pt))) (t := 127) (p:=Cj (arr .i64 zp) 127) 2 12 rowQ (fun z h=>h.len) (fun o h=>⟨_,h,asz jF.out⟩) (by kernel_rfl) (by kernel_rfl)
  exact SyN
 case ea10 =>
 obtain ⟨Vf,hz,hH⟩:=hH.opn 2 (g:=w.heap.size+1+1) (k := .i64) (R:=(fun z=>mE z (⟨(aA (bf (aA (aL P.y P.x) (aL Q.y Q.x)) (aA (bf P.y P.x) (bf Q.y Q.x))) (bf (aL (aA P.z Q.z) (aA P.z Q.z)) (aA (aA P.t Q.t) (aL dd dd)))),(aA (aL (aA (aL P.y P.x) (aL Q.y Q.x)) (aA (bf P.y P.x) (bf Q.y Q.x))) (aL (aL (aA P.z Q.z) (aA P.z Q.z)) (aA (aA P.t Q.t) (aL dd dd)))),(aA (bf (aL (aA P.z Q.z) (aA P.z Q.z)) (aA (aA P.t Q.t) (aL dd dd))) (aL (aL (aA P.z Q.z) (aA P.z Q.z)) (aA (aA P.t Q.t) (aL dd dd)))),(aA (bf (aA (aL P.y P.x) (aL Q.y Q.x)) (aA (bf P.y P.x) (bf Q.y Q.x))) (aL (aA (aL P.y P.x) (aL Q.y Q.x)) (aA (bf P.y P.x) (bf Q.y Q.x))))⟩:Pt))) (t := 127) (by kernel_rfl)
 have RYa10_2:=abC hz
 have HYa10_2:=abC (show Vf.length=_ from hz.len)
 clear hz
 have HBa10:=abC (hH.blk [0,1,2,3,4,5,6,7,8,9,10] [(w.heap.size,arr .i64 ps, 127),(w.heap.size+1,arr .i64 qs, 127),(w.heap.size+1+1,arr .i64 Vf, 127),((qa1 11),arr .i64 yS, 125),((qa2 11),arr .i64 Ez, 125),((qa3 9),arr .i64 Kr, 125),(g102,arr .i64 z104, 125),(g107,arr .i64 Kq, 125),(g110,arr .i64 z109, 125),(g113,arr .i64 Ko, 125),(g116,arr .i64 Kn, 125)] (by decide) (by kernel_rfl))
 simp only [lay,Sy.at,CQ,Yr,Yv,Yp,Yq,Yn,Y0,Ys,Act.put,sA,sZ,sS,abH]
 clear hH Rq
 (try simp only [Exit.then])
 go_wp2_with fail
 refine bodyPost_ret (results_cell_row rfl _ _ (w.heap.size+1+1) 127 _ (0,0) _ rfl (HBa10.out.get 2 rfl) Tryz.underlying127 rfl (lI HYa10_2.out)) rfl ?_
 refine ⟨_,rfl,?_,HBa10.out.below⟩
 obtain ⟨x,y,z,t,e,h1,h2,h3,h4⟩:=RYa10_2.out
 refine ⟨x,y,z,t,e,?_,?_,?_,h4⟩
 ·have:=h1;rw [Lc,mul_two] at this;exact this
 ·have:=h2
  rw [Lc,mul_two,TN (aL (aA (aL P.y P.x) (aL Q.y Q.x)) (aA (bf P.y P.x) (bf Q.y Q.x)))] at this
  exact this
 ·have:=h3;rw [Lc,mul_two] at this;exact this
end Go.Proofs.YthdgbgleklkaiaaGreatDoor.Rd
namespace Go.Proofs.YthdgbgleklkaiaaGreatDoor.Rd
open Go.RowKit Lm Fp Cu
theorem KZ (w:World):Calls Tryz.prog 133 #[] w fun e w'=>∃ zs,e = .returned (.agg (arr .i64 zs))∧mE zs nought∧Below w.heap.size w w':=by
 obtain ⟨ze,iO,dO,dG⟩:=zN gM
 obtain ⟨zp,yE,xS,jF⟩:=zN nD
 have HEz:Hid (El ze 0):=abC (by rw [iO];exact F9)
 have CW:Hid (∀ w,(Instr.build 125 #[]).run Tryz.prog w = .ok (.agg (arr .i64 ze)) w):=abC (by intro w;rw [iO];exact Ea w)
 have bW:=abC (bO.one w (arr .i64 zp) 127)
 clear iO yE
 go_enter Tryz.func133, Tryz.ntmps133
 go_upto_region 1 with (first|((with_reducible refine aS 0 ?_);refine ah rfl 127 rfl _ (xS.out _) ?_))
 (try simp only [Act.put,sA,sZ])
 generalize (w.alloc (.cells (arr .i64 zp) 127))=wb at bW ⊢
 go_wp2_with (first|((with_reducible refine aS 1 ?_);refine wpList_build (by rfl) 125 _ rfl #[] rfl _ (CW.out _) ?_)|((with_reducible show Calls _ 134 #[_] _ _);go_at_call 134; refine lZ (gq 1 _ (by decide)) bW ?_;intro z301 w301 HZ301 HB301;have HL301:=abC HZ301.out.1)|((with_reducible show Calls _ 134 #[_] _ _);go_at_call 134; refine lZ (gq 1 _ (by decide)) HB301 ?_;intro z302 w302 HZ302 HB302;have HL302:=abC HZ302.out.1)|((with_reducible refine aS 4 ?_);refine wpList_build (by rfl) 125 _ rfl #[] rfl _ (CW.out _) ?_)|((with_reducible refine aS 5 ?_);obtain ⟨v303,Qq⟩:∃ x,x=ze ++ z301 ++ z302 ++ ze:=⟨_,rfl⟩;have HR303:Hid (∀ w,(Instr.build 127 #[(0, .agg (arr .i64 ze)),(1, .agg (arr .i64 z301)),(2, .agg (arr .i64 z302)),(3, .agg (arr .i64 ze))]).run Tryz.prog w = .ok (.agg (arr .i64 v303)) w):=abC (fun w=>by rw [Qq];exact qm _ _ _ _ dG.out HL301.out HL302.out dG.out w);have PS:Hid (v303.length=64):=abC (by rw [Qq];exact abB dG.out HL301.out HL302.out dG.out);have HV303:=abC Qq;clear Qq;refine wpList_build (by rfl) 127 _ rfl #[(0, .agg (arr .i64 ze)),(1, .agg (arr .i64 z301)),(2, .agg (arr .i64 z302)),(3, .agg (arr .i64 ze))] rfl _ (HR303.out _) ?_)|((with_reducible refine aT 0 (x:=(Operand.tmp 5)) ?_);refine lS rfl rfl HB302 0 rfl rfl rfl (av _ _ PS.out jF.out) (lI PS.out) (ak _ _) ?_;intro w304 HB304))
 (try simp only [Exit.then])
 refine bodyPost_ret (results_cell_row rfl _ _ (w.heap.size) 127 _ (0,0) _ rfl (HB304.out.get 0 rfl) Tryz.underlying127 rfl (lI PS.out)) rfl ?_
 exact ⟨_,rfl,⟨_,_,_,_,HV303.out,HEz.out,HZ301.out,HZ302.out,HEz.out⟩,HB304.out.below⟩
theorem Bq (w:World) (hX:Uz w) (hY:Uy w):Calls Tryz.prog 83 #[] w fun e w'=>∃ zs,e = .returned (.agg (arr .i64 zs))∧mE zs base∧Below w.heap.size w w':=by
 obtain ⟨zp,yE,xS,jF⟩:=zN nD
 obtain ⟨xl,hxl⟩:∃ x,x=xL:=⟨_,rfl⟩
 obtain ⟨yl,hyl⟩:∃ x,x=yL:=⟨_,rfl⟩
 have HXe:Hid (El xl bx):=abC (by rw [hxl];exact xL_el)
 have HXl:=abC HXe.out.1
 have HYe:Hid (El yl bY):=abC (by rw [hyl];exact yL_el)
 have HYl:=abC HYe.out.1
 unfold Uz at hX
 unfold Uy at hY
 rw [← hxl] at hX
 rw [← hyl] at hY
 have bW:=abC (bO.one w (arr .i64 zp) 127)
 have HTX:=abC (bC hX bW.out.below)
 have HTY:=abC (bC hY bW.out.below)
 have HGX:Hid (¬ 1 = w.heap.size):=abC (by rw [hxl] at hX;exact Nat.ne_of_lt (zJ hX))
 have HGY:Hid (¬ 2 = w.heap.size):=abC (by rw [hyl] at hY;exact Nat.ne_of_lt (zJ hY))
 clear yE hX hY hxl hyl
 go_enter Tryz.func83, Tryz.ntmps83
 go_upto_region 1 with (first|((with_reducible refine aS 0 ?_);refine ah rfl 127 rfl _ (xS.out _) ?_))
 (try simp only [Act.put,sA,sZ])
 generalize (w.alloc (.cells (arr .i64 zp) 127))=wb at bW HTX HTY ⊢
 have d9:=abC ((Kept.refl (fun x=>x=w.heap.size) wb).drew)
 have eF:=abC (bW.out.drew)
 refine wp_region_held_drew (S:=(fun w'=>Kept (fun x=>x=w.heap.size) wb w')) (by kernel_rfl) (d9.out) (fun hHeld=>?_)
 generalize wb.drew=wd at d9 eF hHeld ⊢
 refine' wpAnyH_take (i:=0) (oi:=(⟨some 1,_,_,_,_,none⟩:Oper)) (v:=_) rfl (by kernel_rfl) (by kernel_rfl) (by kernel_rfl) (fun _ _ _ h=>h) (yieldsIf_load_mid (by rfl) _ _ rfl _ _ rfl (xl.map (Value.int .i64)) _ ?hS305 Tryz.underlying125 rfl (by rw [abF];exact bK HXl.out)) (by assumption) ?rest305
 case hS305=>(intro w hSw;(try dsimp only at hSw);exact kZ HTX.out (hSw) (by first|exact HGX.out|exact HGY.out))
 (try simp only [Act.put,sA,sZ,sS])
 refine' wpAnyH_take (i:=1) (oi:=(⟨some 2,_,_,_,_,none⟩:Oper)) (v:=_) rfl (by kernel_rfl) (by kernel_rfl) (by kernel_rfl) (fun _ _ _ h=>h) (yieldsIf_load_mid (by rfl) _ _ rfl _ _ rfl (yl.map (Value.int .i64)) _ ?hS306 Tryz.underlying125 rfl (by rw [abF];exact bK HYl.out)) (by assumption) ?rest306
 case hS306=>(intro w hSw;(try dsimp only at hSw);exact kZ HTY.out (hSw) (by first|exact HGX.out|exact HGY.out))
 (try simp only [Act.put,sA,sZ,sS])
 refine' wpAnyH_take (i:=3) (oi:=(⟨some 4,_,_,_,_,none⟩:Oper)) (v:=_) rfl (by kernel_rfl) (by kernel_rfl) (by kernel_rfl) (fun _ _ _ h=>h) (yieldsIf_load_mid (by rfl) _ _ rfl _ _ rfl (xl.map (Value.int .i64)) _ ?hS307 Tryz.underlying125 rfl (by rw [abF];exact bK HXl.out)) (by assumption) ?rest307
 case hS307=>(intro w hSw;(try dsimp only at hSw);exact kZ HTX.out (hSw) (by first|exact HGX.out|exact HGY.out))
 (try simp only [Act.put,sA,sZ,sS])
 refine' wpAnyH_take (i:=4) (oi:=(⟨some 5,_,_,_,_,none⟩:Oper)) (v:=_) rfl (by kernel_rfl) (by kernel_rfl) (by kernel_rfl) (fun _ _ _ h=>h) (yieldsIf_load_mid (by rfl) _ _ rfl _ _ rfl (yl.map (Value.int .i64)) _ ?hS308 Tryz.underlying125 rfl (by rw [abF];exact bK HYl.out)) (by assumption) ?rest308
 case hS308=>(intro w hSw;(try dsimp only at hSw);exact kZ HTY.out (hSw) (by first|exact HGX.out|exact HGY.out))
 (try simp only [Act.put,sA,sZ,sS])
 refine pR 2 ⟨some 3,_,_,_,_,none⟩ (fun K hK=>?_)
 go_simp
 go_at_call 134
 refine (gq 1 _ (by decide)).mono ?_
 rintro e w309 ⟨z309,rfl,h309,YE⟩
 have HZ309:=abC h309
 have HL309:=abC h309.1
 clear h309
 have HB309:=abC (eF.out.kept YE)
 have HK309:=abC (d9.out.trans (Kept.of_below YE))
 clear YE
 (try dsimp only)
 refine hK.out _ _ (HK309.out) (fun hHeld=>?_)
 clear hK K
 (try simp only [Act.put,sA,sZ,sS])
 refine pR 5 ⟨some 6,_,_,_,_,none⟩ (fun K hK=>?_)
 go_simp
 go_at_call 132
 refine (bM _ _ _ _ _ HXe.out HYe.out).mono ?_
 rintro e w310 ⟨z310,rfl,h310,YD⟩
 have HZ310:=abC h310
 have HL310:=abC h310.1
 clear h310
 have HB310:=abC (HB309.out.kept YD)
 have HK310:=abC (HK309.out.trans (Kept.of_below YD))
 clear YD
 (try dsimp only)
 refine hK.out _ _ (HK310.out) (fun hHeld=>?_)
 clear hK K
 (try simp only [Act.put,sA,sZ,sS])
 obtain ⟨v312,Qp⟩:∃ x,x=xl ++ yl ++ z309 ++ z310:=⟨_,rfl⟩
 have HR312:Hid (∀ w,(Instr.build 127 #[(0, .agg (arr .i64 xl)),(1, .agg (arr .i64 yl)),(2, .agg (arr .i64 z309)),(3, .agg (arr .i64 z310))]).run Tryz.prog w = .ok (.agg (arr .i64 v312)) w):=abC (fun w=>by rw [Qp];exact qm _ _ _ _ HXl.out HYl.out HL309.out HL310.out w)
 have Jr:Hid (v312.length=64):=abC (by rw [Qp];exact abB HXl.out HYl.out HL309.out HL310.out)
 have HV312:=abC Qp
 clear Qp
 refine wpAnyH_take (i:=6) (oi:=(⟨some 7,_,_,_,_,none⟩:Oper)) (v:=(.agg (arr .i64 v312))) rfl (by kernel_rfl) (by kernel_rfl) (by kernel_rfl) (fun _ _ _ h=>h) (Or.inl ⟨by rfl,?hy311⟩) (by assumption) ?rest311
 case hy311=>(intro w hSw;(try dsimp only at hSw);exact rF 127 _ rfl #[(0, .agg (arr .i64 xl)),(1, .agg (arr .i64 yl)),(2, .agg (arr .i64 z309)),(3, .agg (arr .i64 z310))] rfl _ (HR312.out _))
 (try simp only [Act.put,sA,sZ,sS])
 refine pR 7 ⟨none,_,_,_,_,none⟩ (fun K hK=>?_)
 refine aI rfl 127 (.tmp 0) (.tmp 7) rfl (w.heap.size) _ _ _ (HB310.out.get 0 rfl) rfl rfl (av _ _ Jr.out jF.out) (lI Jr.out) (ak _ _) ?_
 intro w313 hb313 Ya hz313
 have HB313:=abC (HB310.out.put 0 rfl Ya hb313)
 have HK313:=abC (HK310.out.trans Ya)
 clear hb313 Ya hz313
 refine hK.out _ _ (HK313.out) (fun hHeld=>?_)
 clear hK K
 (try simp only [Act.put])
 refine wpAnyH_done (by kernel_rfl) ?_ _
 have sH:=HB313
 have HWF:=Jr
 have HF0:=HV312
 have HF1:=HXe
 have HF2:=HYe
 have HF3:=HZ309
 have HF4:=HZ310
 (try simp only [Exit.then])
 go_wp2_with fail
 refine bodyPost_ret (results_cell_row rfl _ _ (w.heap.size) 127 _ (0,0) _ rfl (sH.out.get 0 rfl) Tryz.underlying127 rfl (lI HWF.out)) rfl ?_
 exact ⟨_,rfl,⟨_,_,_,_,HF0.out,HF1.out,HF2.out,HF3.out,HF4.out⟩,sH.out.below⟩
theorem Xc (P:Pt) (k n:Nat):kC P k (n+1)=if k / 2 ^ (255 - n) % 2=1 then iB (iB (kC P k n) (kC P k n)) P else iB (kC P k n) (kC P k n):=rfl
theorem I7 (ps:List Int) (P:Pt) (v:Nat) (w:World) (hp:mE ps P) (hT:vK w) :
  Calls Tryz.prog 82 #[.agg (arr .i64 ps), .agg (arr .u8 (aW (bD 256 32 v)))] w fun e w'=>∃ zs,e = .returned (.agg (arr .i64 zs))∧mE zs (kC P v 256)∧Below w.heap.size w w':=by
 obtain ⟨zp,yE,xS,jF⟩:=zN nD
 obtain ⟨es,hes⟩:∃ x,x=aW (bD 256 32 v):=⟨_,rfl⟩
 rw [← hes]
 have HES:=abC hes
 have J7:Hid (es.length=32):=abC (by rw [hes,aG,aK])
 have HX:=abC hp
 have jc:=abC hp.len
 have HT:=abC hT
 have bW:=abC (bO.three w (arr .i64 ps) (arr .u8 es) (arr .i64 zp) 127 25 127)
 clear yE hes hp hT
 go_enter Tryz.func82, Tryz.ntmps82
 go_wp2_with (first|((with_reducible refine aS 4 ?_);refine ah rfl 127 rfl _ (xS.out _) ?_)|((with_reducible show Calls _ _ #[] _ _);go_at_call 133; refine (KZ _).mono ?_;rintro e w1 ⟨z1,rfl,h1,hb1⟩;have HZ1:=abC h1;have oH:=abC h1.len;have HB1:=abC (bW.out.kept hb1);clear h1 hb1)|((with_reducible refine aS 5 ?_);refine ah rfl 127 rfl _ (xS.out _) ?_;have HB2:=abC (HB1.out.alloc (arr .i64 zp) 127);generalize w1.heap.size=gx at HB2 ⊢)|((with_reducible refine aT 5 ?_);refine lS rfl rfl HB2 3 rfl rfl rfl (av _ _ oH.out jF.out) (lI oH.out) (ak _ _) ?_;intro w3 HB3))
 go_loopw [6] (fun v' wr=>∃ n:Nat,n≤256∧v' = .int .i64 (255 - (n:Int))∧∃ cs:List Int,mE cs (kC P v n)∧bO w wr [(w.heap.size,arr .i64 ps, 127),(w.heap.size+1,arr .u8 es, 25),(w.heap.size+1+1,arr .i64 zp, 127),(gx,arr .i64 cs, 127)]) (fun v' _=>(intOf v'+1).toNat)
 case atStart=>exact ⟨0,abK _,rfl,_,HZ1.out,HB3.out⟩
 clear bW HB1 HB2 HB3
 case round =>
 obtain ⟨n,hn,rfl,cs,hcs,hB⟩:=hrel
 by_cases hlt:n < 256
 ·obtain ⟨i,hi⟩:∃ i:Nat,i+n=255:=⟨255 - n,by omega⟩
  have hz:(255:Int) - (n:Int)=(i:Int):=by omega
  have hi2:i < 256:=by omega
  obtain ⟨y,hy,hy2,hbit⟩:=Bf es v i HES.out hi2
  have hpn:=Xc P v n
  rw [show 255 - n=i by omega] at hpn
  rw [hz]
  have J8:=abC hcs
  have mF:=abC hcs.len
  have HB:=abC hB
  have HI:=abC hi
  have HY:=abC hy
  clear hcs hB hy hz hi
  have q9:0≤(i:Int):=by omega
  rcases (show v / 2 ^ i % 2=0∨v / 2 ^ i % 2=1 by omega) with hb|hb
  ·rw [hb] at hbit
   rw [if_neg (by omega)] at hpn
   have hbit0:bits .and .u8 ((y:Int) / 2 ^ (i % 8)) 1=0:=hbit
   have Kh:=abC hpn
   clear hpn hb hbit
   go_wp2_with (first|((with_reducible refine aS 12 ?_);refine lL rfl rfl (HB.out.get 3 rfl) rfl (aj _ _) Tryz.underlying127 rfl (KS mF.out) ?_)|((with_reducible refine aS 13 ?_);refine lL rfl rfl (HB.out.get 3 rfl) rfl (aj _ _) Tryz.underlying127 rfl (KS mF.out) ?_)|((with_reducible show Calls _ _ #[.agg (arr _ cs), .agg (arr _ cs)] _ _);go_at_call 112; refine (sO _ _ _ _ _ J8.out J8.out (bC HT.out HB.out.below)).mono ?_;rintro e w5 ⟨z5,rfl,h5,hb5⟩;have HZ5:=abC h5;have Om:=abC h5.len;have gy:=abC (HB.out.kept hb5);clear h5 hb5)|((with_reducible refine aT 5 ?_);refine au rfl 127 _ _ rfl (gx) _ _ 127 (gy.out.get 3 rfl) rfl rfl (av _ _ Om.out mF.out) (lI Om.out) (ak _ _) ?_;intro w6 hb6 LD hz6;have mH:=abC (gy.out.put 3 rfl LD hb6);have q1:=aP (mH.out.get 1 rfl) (i / 8) (by rw [J7.out];omega);rw [HY.out] at q1;clear hb6 LD hz6))
   go_roundw
   case rel =>
    have e:=HI.out
    exact ⟨n+1,by omega,by congr 1;omega,_,by rw [Kh.out];exact HZ5.out,mH.out⟩
   case measure=>simp [intOf]
  ·rw [if_pos hb] at hpn
   rw [hb] at hbit
   have hbit1:bits .and .u8 ((y:Int) / 2 ^ (i % 8)) 1=1:=hbit
   have Kh:=abC hpn
   clear hpn hb hbit
   go_wp2_with (first|((with_reducible refine aS 12 ?_);refine lL rfl rfl (HB.out.get 3 rfl) rfl (aj _ _) Tryz.underlying127 rfl (KS mF.out) ?_)|((with_reducible refine aS 13 ?_);refine lL rfl rfl (HB.out.get 3 rfl) rfl (aj _ _) Tryz.underlying127 rfl (KS mF.out) ?_)|((with_reducible show Calls _ _ #[.agg (arr _ cs), .agg (arr _ cs)] _ _);go_at_call 112; refine (sO _ _ _ _ _ J8.out J8.out (bC HT.out HB.out.below)).mono ?_;rintro e w5 ⟨z5,rfl,h5,hb5⟩;have HZ5:=abC h5;have Om:=abC h5.len;have gy:=abC (HB.out.kept hb5);clear h5 hb5)|(with_reducible refine aT 5 (x:=(Operand.tmp 14)) ?_);((with_reducible refine aT 5 ?_);refine au rfl 127 _ _ rfl (gx) _ _ 127 (gy.out.get 3 rfl) rfl rfl (av _ _ Om.out mF.out) (lI Om.out) (ak _ _) ?_;intro w6 hb6 LD hz6;have mH:=abC (gy.out.put 3 rfl LD hb6);have q1:=aP (mH.out.get 1 rfl) (i / 8) (by rw [J7.out];omega);rw [HY.out] at q1;clear hb6 LD hz6)|((with_reducible refine aS 25 ?_);refine lL rfl rfl (mH.out.get 3 rfl) rfl (aj _ _) Tryz.underlying127 rfl (KS Om.out) ?_)|((with_reducible refine aS 26 ?_);refine lL rfl rfl (mH.out.get 0 rfl) rfl (aj _ _) Tryz.underlying127 rfl (KS jc.out) ?_)|((with_reducible show Calls _ _ #[.agg (arr _ z5), .agg (arr _ ps)] _ _);go_at_call 112; refine (sO _ _ _ _ _ HZ5.out HX.out (bC HT.out mH.out.below)).mono ?_;rintro e w7 ⟨z7,rfl,h7,jh⟩;have HZ7:=abC h7;have HL7:=abC h7.len;have fC:=abC (mH.out.kept jh);clear h7 jh)|(with_reducible refine aT 5 (x:=(Operand.tmp 27)) ?_);((with_reducible refine aT 5 ?_);refine lS rfl rfl fC 3 rfl rfl rfl (av _ _ HL7.out Om.out) (lI HL7.out) (ak _ _) ?_;intro w8 gu))
   go_roundw
   case rel =>
    have e:=HI.out
    exact ⟨n+1,by omega,by congr 1;omega,_,by rw [Kh.out];exact HZ7.out,gu.out⟩
   case measure=>simp [intOf]
 ·obtain rfl:n=256:=by omega
  have hz:(255:Int) - ((256:Nat):Int) = -1:=by omega
  rw [hz]
  have J8:=abC hcs
  have mF:=abC hcs.len
  have HB:=abC hB
  clear hcs hB hz
  go_wp2_with (first|((with_reducible refine aS 28 ?_);refine lL rfl rfl (HB.out.get 3 rfl) rfl (aj _ _) Tryz.underlying127 rfl (KS mF.out) ?_)|((with_reducible refine aT 4 ?_);refine lS rfl rfl HB 2 rfl rfl rfl (av _ _ mF.out jF.out) (lI mF.out) (ak _ _) ?_;intro w8 gu))
  (try simp only [Exit.inBlock,Exit.then])
  refine bodyPost_ret (results_cell_row rfl _ _ (w.heap.size+1+1) 127 _ (0,0) _ rfl (gu.out.get 2 rfl) Tryz.underlying127 rfl (lI mF.out)) rfl ?_
  exact ⟨_,rfl,J8.out,gu.out.below⟩
end Go.Proofs.YthdgbgleklkaiaaGreatDoor.Rd
namespace Go.Proofs.YthdgbgleklkaiaaGreatDoor.Rd
open Go.RowKit Lm Fp Cu
theorem wM (ps:List Int) (P:Pt) (w:World) (hp:mE ps P):Calls Tryz.prog 81 #[.agg (arr .i64 ps)] w fun e w'=>e = .returned (.agg (arr .u8 (aW (bD 256 32 (lF P)))))∧Below w.heap.size w w':=by
 have HmW:=abC hp.len
 obtain ⟨mx,my,mz,mt,hme,hmx,qO,hmz,hmt⟩:=hp
 have Hmx:=abC hmx
 have HmxL:=abC hmx.1
 have Hmy:=abC qO
 have HmyL:=abC qO.1
 have Hmz:=abC hmz
 have HmzL:=abC hmz.1
 have Hmt:=abC hmt
 have HmtL:=abC hmt.1
 have hmP:=rE .i64 mx my mz mt 16 hmx.1 qO.1 hmz.1 hmt.1
 rw [← hme] at hmP
 have HmP:=abC hmP
 clear hmx qO hmz hmt hme hmP
 obtain ⟨X,hX⟩:∃ x,x=aA P.x (finv P.z):=⟨_,rfl⟩
 obtain ⟨Y,hY⟩:∃ x,x=aA P.y (finv P.z):=⟨_,rfl⟩
 have hYlt:Y < 2 ^ 255:=by rw [hY];exact Nat.lt_of_lt_of_le (dH _ _) (by decide +kernel)
 have hen:=enc_set Y (X % 2) hYlt (by omega)
 obtain ⟨ht1,ht2⟩:=VH Y hYlt
 have hlb:=zZ X
 have heb:lF P=Y+2 ^ 255 * (X % 2):=by rw [hX,hY];rfl
 rw [heb,← hen]
 have hox:=fun xs w (h:El xs (aA P.x (finv P.z)))=>nQ xs _ w h
 have hoy:=fun xs w (h:El xs (aA P.y (finv P.z)))=>nQ xs _ w h
 rw [← hX] at hox
 rw [← hY] at hoy
 obtain ⟨bx8,hbx⟩:∃ x,x=aW (bD 256 32 X):=⟨_,rfl⟩
 obtain ⟨by8,hby⟩:∃ x,x=aW (bD 256 32 Y):=⟨_,rfl⟩
 have HBXL:Hid (bx8.length=32):=abC (by rw [hbx,aG,aK])
 have HBYL:Hid (by8.length=32):=abC (by rw [hby,aG,aK])
 have g0:bx8.getD 0 0=((X % 256:Nat):Int):=by rw [hbx,bH,hlb]
 have g1:by8.getD 31 0=((Y / 256 ^ 31:Nat):Int):=by rw [hby,bH,ht1]
 have hfin:by8.set 31 ((Y / 256 ^ 31+128 * (X % 2):Nat):Int)=aW ((bD 256 32 Y).set 31 (Y / 256 ^ 31+128 * (X % 2))):=by rw [cZ,hby]
 rw [← hbx] at hox
 rw [← hby] at hoy
 rw [← hfin]
 have ha:=ZY (X % 256) (Nat.mod_lt _ (by decide))
 rw [Nat.mod_mod_of_dvd X (show 2 ∣ 256 by decide)] at ha
 generalize Y / 256 ^ 31=q at ht2 g1
 have hor:bits .or .u8 (q:Int) (((X % 2:Nat):Int) * 128)=((q+128 * (X % 2):Nat):Int):=by
  have h1:(abE 8 (q:Int)).toNat=q:=by rw [BitVec.ofInt_natCast,BitVec.toNat_ofNat];exact abQ (by omega)
  rcases (show X % 2=0∨X % 2=1 by omega) with h|h
  ·rw [h]
   show IntKind.u8.wrap ((abE 8 (q:Int) ||| abE 8 (((0:Nat):Int) * 128)).toNat:Int)=_
   rw [abR,h1,show (abE 8 (((0:Nat):Int) * 128)).toNat=0 from by decide,Nat.or_zero,IntKind.wrap_u8]
   omega
  ·rw [h]
   show IntKind.u8.wrap ((abE 8 (q:Int) ||| abE 8 (((1:Nat):Int) * 128)).toNat:Int)=_
   have h3:q ||| 128=128+q:=by
    rw [Nat.or_comm]
    have:=Nat.two_pow_add_eq_or_of_lt (i:=7) (b:=q) (by omega) 1
    simpa using this.symm
   rw [abR,h1,show (abE 8 (((1:Nat):Int) * 128)).toNat=128 from by decide,h3,IntKind.wrap_u8]
   omega
 obtain ⟨rs,hrs⟩:∃ r,r=by8.set 31 ((q+128 * (X % 2):Nat):Int):=⟨_,rfl⟩
 rw [← hrs]
 have iR:Hid (rs.length=32):=abC (by rw [hrs,abG];exact HBYL.out)
 have CV:=abC hrs
 have HOX:=abC hox
 have HOY:=abC hoy
 have HOR:=abC hor
 have HA:=abC ha
 have HG0:=abC g0
 have rV:=abC g1
 have HXE:=abC hX
 have HYE:=abC hY
 obtain ⟨ze,iO,dO,dG⟩:=zN gM
 obtain ⟨zn,hzn,dB,dw⟩:=zN zero_num
 have bW:=abC (bO.two w (arr .i64 ps) (arr .u8 zn) 127 25)
 clear iO hzn hen ht1 hlb heb hox hoy hbx hby hfin hor hrs ha g0 g1 hX hY hYlt
 go_enter Tryz.func81, Tryz.ntmps81
 go_upto_region 1 with (first|((with_reducible refine aS 2 ?_);refine ah rfl 25 rfl _ (dB.out _) ?_))
 (try simp only [World.size_alloc,Act.put,sA,sZ,sS])
 generalize ((w.alloc (.cells (arr .i64 ps) 127)).alloc (.cells (arr .u8 zn) 25))=wb at bW ⊢
 go_upto_region 2 with (first|((with_reducible refine aS 7 ?_);refine aB rfl 125 _ rfl (w.heap.size) (32) _ 127 (0,0) _ (bW.out.get 0 rfl) rfl .i64 mz (HmP.out.2.2.1) Tryz.underlying125 rfl (bK HmzL.out) ?_)|((with_reducible show Calls _ 130 #[.agg _] _ _);go_at_call 130; refine lZ (FU _ _ _ Hmz.out) bW ?_;intro z501 w501 aaG HB501;have Rb:=abC aaG.out.1)|((with_reducible refine aS 3 ?_);refine lA rfl rfl (dO.out _) HB501 ?_;intro g502 w502 HB502)|((with_reducible refine aT 3 (x:=(Operand.tmp 8)) ?_);refine lS rfl rfl HB502 2 rfl rfl rfl (av _ _ Rb.out dG.out) (dx Rb.out) (ak _ _) ?_;intro w503 HB503))
 go_upto_region 3 with (first|((with_reducible refine aS 10 ?_);refine aB rfl 125 _ rfl (w.heap.size) (0) _ 127 (0,0) _ (HB503.out.get 0 rfl) rfl .i64 mx (HmP.out.1) Tryz.underlying125 rfl (bK HmxL.out) ?_)|((with_reducible refine aS 11 ?_);refine lL rfl rfl (HB503.out.get 2 rfl) rfl (aj _ _) Tryz.underlying125 rfl (bK Rb.out) ?_)|((with_reducible show Calls _ 132 #[.agg _, .agg _] _ _);go_at_call 132; refine lZ (bM _ _ _ _ _ Hmx.out aaG.out) HB503 ?_;intro z504 w504 HZ504 HB504;have HL504:=abC HZ504.out.1)|((with_reducible show Calls _ 131 #[.agg _] _ _);go_at_call 131; refine lC (HOX.out _ _ (by rw [HXE.out];exact HZ504.out)) HB504 ?_;intro w505 HB505)|((with_reducible refine aS 4 ?_);refine lA rfl rfl (dB.out _) HB505 ?_;intro g506 w506 HB506)|((with_reducible refine aT 4 (x:=(Operand.tmp 13)) ?_);refine lS rfl rfl HB506 3 rfl rfl rfl (av _ _ HBXL.out dw.out) (bG HBXL.out) (ak _ _) ?_;intro w507 HB507))
 go_upto_region 4 with (first|((with_reducible refine aS 15 ?_);refine aB rfl 125 _ rfl (w.heap.size) (16) _ 127 (0,0) _ (HB507.out.get 0 rfl) rfl .i64 my (HmP.out.2.1) Tryz.underlying125 rfl (bK HmyL.out) ?_)|((with_reducible refine aS 16 ?_);refine lL rfl rfl (HB507.out.get 2 rfl) rfl (aj _ _) Tryz.underlying125 rfl (bK Rb.out) ?_)|((with_reducible show Calls _ 132 #[.agg _, .agg _] _ _);go_at_call 132; refine lZ (bM _ _ _ _ _ Hmy.out aaG.out) HB507 ?_;intro z508 w508 HZ508 HB508;have HL508:=abC HZ508.out.1)|((with_reducible show Calls _ 131 #[.agg _] _ _);go_at_call 131; refine lC (HOY.out _ _ (by rw [HYE.out];exact HZ508.out)) HB508 ?_;intro w509 HB509)|((with_reducible refine aS 5 ?_);refine lA rfl rfl (dB.out _) HB509 ?_;intro g510 w510 HB510)|((with_reducible refine aT 5 (x:=(Operand.tmp 18)) ?_);refine lS rfl rfl HB510 4 rfl rfl rfl (av _ _ HBYL.out dw.out) (bG HBYL.out) (ak _ _) ?_;intro w511 Rp))
 have q0:=aP (Rp.out.get 3 rfl) 0 (by rw [HBXL.out];decide)
 have q1:=aP (Rp.out.get 4 rfl) 31 (by rw [HBYL.out];decide)
 have q2:=aC (Rp.out.get 4 rfl) 31
 rw [HG0.out] at q0
 rw [rV.out] at q1
 have hb1:=Rp.out.cell 4 rfl 31 (.int .u8 (bits .or .u8 (q:Int) (bits .and .u8 ((X % 256:Nat):Int) 1 * 128)))
 have e2:(arr .u8 by8).setIfInBounds 31 (.int .u8 (bits .or .u8 (q:Int) (bits .and .u8 ((X % 256:Nat):Int) 1 * 128)))=arr .u8 rs:=by rw [HA.out,HOR.out,bq,CV.out]
 have oN:=abC (hb1.cast (l':=[(w.heap.size,arr .i64 ps, 127),(w.heap.size+1,arr .u8 zn, 25),(g502,(arr .i64 z501), 125),(g506,(arr .u8 bx8), 25),(g510,arr .u8 rs, 25)]) (by rw [← e2];rfl))
 have hx2:bits .and .u8 ((X % 256:Nat):Int) 1=0∨bits .and .u8 ((X % 256:Nat):Int) 1=1:=by rw [HA.out];omega
 generalize X % 256=xq at q0 hx2 oN
 clear hb1 e2
 go_wp2_with (first|((with_reducible refine aS 27 ?_);refine lL rfl rfl (oN.out.get 4 rfl) rfl (aj _ _) Tryz.underlying25 rfl (bU iR.out) ?_)|((with_reducible refine aT 2 ?_);refine lS rfl rfl oN 1 rfl rfl rfl (av _ _ iR.out dw.out) (bG iR.out) (ak _ _) ?_;intro w10 HB10))
 (try simp only [Exit.then])
 refine bodyPost_ret (results_cell_row rfl _ _ (w.heap.size+1) 25 _ (0,0) _ rfl (HB10.out.get 1 rfl) Tryz.underlying25 rfl (bG iR.out)) rfl ?_
 exact ⟨by rw [CV.out],HB10.out.below⟩
end Go.Proofs.YthdgbgleklkaiaaGreatDoor.Rd
namespace Go.Proofs.YthdgbgleklkaiaaGreatDoor.Rd
open Go.RowKit Lm Sc
theorem Ph (w:World):(zeroValue 230).run Tryz.prog w = .ok (.agg (arr .i64 (abD 33 0))) w:=by kernel_rfl
theorem PD:(Tryz.prog.info? 230).map (·.size)=some 33:=by kernel_rfl
theorem Da {xs:List Int} (h:xs.length=33):(Tryz.prog.info? 230).map (·.size)=some (arr .i64 xs).size:=by rw [aD,h];exact PD
theorem Pv {xs:List Int} (h:xs.length=33):(Tryz.prog.info? 230).map (·.size)=some xs.length:=by rw [h];exact PD
def qL:List Int:=[0xed,0xd3,0xf5,0x5c,0x1a,0x63,0x12,0x58,0xd6,0x9c,0xf7,0xa2,0xde,0xf9,0xde,0x14,0,0,0,0,0,0,0,0,0,0,0,0,0,0,0,0x10]
theorem qL_eq:qL=aW (bD 256 32 q):=by decide +kernel
def ny (w:World):Prop:=∀ t,t < 32→w.cell? ⟨4, t,none⟩=some (.int .i64 (qL.getD t 0))
theorem ny.below {a b:World} (h:ny a) (k:Below a.heap.size a b):ny b:=fun t ht=>(Kept.of_below k (T:=fun _=>False)).lV (h t ht) id
theorem q33 (k:Nat) (h:k < 33):(bD 256 33 q).getD k 0=if k < 32 then (bD 256 32 q).getD k 0 else 0:=by
 rw [dn _ _ _ _ h]
 split
 ·rename_i h2;rw [dn _ _ _ _ h2]
 ·obtain rfl:k=32:=by omega
  decide +kernel
theorem val33:val 256 (bD 256 33 q)=q:=by decide +kernel
theorem qL_get (k:Nat) (h:k < 32):qL.getD k 0=(((bD 256 33 q).getD k 0:Nat):Int):=by rw [q33 k (by omega),if_pos h,qL_eq,bH]
theorem sub33 (N S c:Nat) (h:S+q=N+256 ^ 33 * c) (hS:S < 256 ^ 33) (_hN:N < 256 ^ 33) (hc:c≤1):(c=1∧N < q)∨(c=0∧¬ N < q∧S=N - q):=by
 have hq:q < 256 ^ 33:=by decide +kernel
 rcases (show c=0∨c=1 by omega) with rfl|rfl
 ·right;omega
 ·left;omega
theorem Xn (N:Nat) (w:World) (hN:N < 256 ^ 33) (hT:ny w) :
  Calls Tryz.prog 197 #[.agg (arr .i64 (aW (bD 256 33 N)))] w fun e w'=>e = .returned (.agg (arr .i64 (aW (bD 256 33 (if N < q then N else N - q)))))∧Below w.heap.size w w':=by
 obtain ⟨rs,hrs⟩:∃ r,r=bD 256 33 N:=⟨_,rfl⟩
 have rl:rs.length=33:=by rw [hrs,aK]
 have rb:∀ x∈rs,x < 256:=by rw [hrs];exact iw 256 (by decide) _ _
 have rv:val 256 rs=N:=by rw [hrs,fA,abQ hN]
 obtain ⟨qs,hqs⟩:∃ r,r=bD 256 33 q:=⟨_,rfl⟩
 have ql:qs.length=33:=by rw [hqs,aK]
 have qb:∀ x∈qs,x < 256:=by rw [hqs];exact iw 256 (by decide) _ _
 have qv:val 256 qs=q:=by rw [hqs];exact val33
 have qg:∀ k,k < 32→qL.getD k 0=((qs.getD k 0:Nat):Int):=fun k h=>by rw [hqs];exact qL_get k h
 have q32:qs.getD 32 0=0:=by rw [hqs,q33 32 (by decide),if_neg (by decide)]
 have hfin:=fun S c h1 h2 h3=>sub33 N S c h1 h2 hN h3
 rw [← hrs]
 obtain ⟨V,hV⟩:∃ V,V=if N < q then N else N - q:=⟨_,rfl⟩
 rw [← hV]
 have HV:=abC hV
 have RL:=abC rl
 have RB:=abC rb
 have RV:=abC rv
 have QL:=abC ql
 have QB:=abC qb
 have QV:=abC qv
 have QG:=abC qg
 have Q32:=abC q32
 have HF:=abC hfin
 have HT:=abC hT
 have CV:=abC hrs
 obtain ⟨zr,hzr,HZzr,HLzr⟩:=zN Ph
 obtain ⟨r0,hr0⟩:∃ x,x=aW rs:=⟨_,rfl⟩
 have Cm:Hid (r0=aW rs):=abC hr0
 have iR:Hid (r0.length=33):=abC (by rw [hr0,aG,rl])
 rw [← hr0]
 have HSa:=abC (bO.two w (arr .i64 r0) (arr .i64 zr) 230 230)
 clear hzr rl rb rv ql qb qv qg q32 hfin hT hrs hqs hr0 hV
 go_enter Tryz.func197, Tryz.ntmps197
 go_upto_region 1 with (first|((with_reducible refine aS 2 ?_);refine ah rfl 230 rfl _ (HZzr.out _) ?_))
 (try simp only [World.size_alloc,Act.put,sA,sZ,sS])
 generalize ((w.alloc (.cells (arr .i64 r0) 230)).alloc (.cells (arr .i64 zr) 230))=wb at HSa ⊢
 go_wp2_with (first|((with_reducible refine aS 7 ?_);refine lL rfl rfl (HSa.out.get 0 rfl) rfl (aj _ _) Tryz.underlying230 rfl (Pv iR.out) ?_)|((with_reducible refine aS 3 ?_);refine lA rfl rfl (HZzr.out _) HSa ?_;intro gm wm bW)|((with_reducible refine aT 3 ?_);refine lS rfl rfl bW 2 rfl rfl rfl (av _ _ iR.out HLzr.out) (Da iR.out) (ak _ _) ?_;intro w1 HB1))
 go_loopw [4,5,6] (fun cv kv xv wr=>∃ (k c:Nat) (ms:List Nat),k≤33∧kv = .int .i64 k∧cv = .int .i64 c∧c≤1∧ms.length=33∧(∀ x∈ms,x < 256)∧(∀ j,k≤j→ms.getD j 0=rs.getD j 0)∧val 256 (ms.take k)+val 256 (qs.take k)=val 256 (rs.take k)+256 ^ k * c∧bO w wr [(w.heap.size,arr .i64 r0, 230),(w.heap.size+1,arr .i64 zr, 230),(gm,arr .i64 (aW ms), 230)]) (fun _ kv _ _=>33 - (intOf kv).toNat)
 case atStart=>exact ⟨0,0,rs,abK _,rfl,rfl,abK _,RL.out,RB.out,(fun _ _=>rfl),by simp [val],by rw [← Cm.out];exact HB1.out⟩
 clear HSa bW HB1
 case round =>
 obtain ⟨k,c,ms,hk,rfl,rfl,hc,hml,hmb,hmr,hv,hB⟩:=hrel
 by_cases hlt:k < 33
 ·have q0:=aP (hB.get 0 rfl) k (by rw [iR.out];exact hlt)
  have q2:=aP (hB.get 2 rfl) k (by rw [aG,hml];exact hlt)
  have q3:=aC (hB.get 2 rfl) k
  rw [Cm.out,bH] at q0
  have r1:=dA RB.out (by decide) k
  have y1:=dA QB.out (by decide) k
  have st:=fun s c' hs=>VO 256 k _ _ _ (rs.getD k 0) (qs.getD k 0) c s c' hv hs
  have vm:=fun s=>kI 256 ms k s (by omega)
  rw [← bT 256 qs k (by rw [QL.out];exact hlt),← bT 256 rs k (by rw [RL.out];exact hlt)] at st
  have Lx:k=32→qs.getD k 0=0:=fun e=>by rw [e];exact Q32.out
  have hqt:k < 32→wr.cell? ⟨4, k,none⟩=some (.int .i64 ((qs.getD k 0:Nat):Int)):=fun e=>by
   have:=HT.out.below hB.below k e
   rwa [QG.out k e] at this
  generalize rs.getD k 0=r at q0 r1 st
  generalize qs.getD k 0=y at y1 st Lx hqt
  by_cases h32:k < 32
  ·by_cases hbr:r < y+c
   ·skip
    have qt:=hqt h32
    have hneg:(r:Int) - (c:Int) - (y:Int) < 0:=by omega
    have hst:=st (r+256 - c - y) 1 (by omega)
    rw [← vm] at hst
    have hb1:=hB.cell 2 rfl k (.int .i64 ((r:Int) - (c:Int) - (y:Int)+256))
    have e2:(arr .i64 (aW ms)).setIfInBounds k (.int .i64 ((r:Int) - (c:Int) - (y:Int)+256))=arr .i64 (aW (ms.set k (r+256 - c - y))):=by rw [show ((r:Int) - (c:Int) - (y:Int)+256)=(((r+256 - c - y):Nat):Int) by omega,bq,← cZ]
    have HB1:=abC (hb1.cast (l':=[(w.heap.size,arr .i64 r0, 230),(w.heap.size+1,arr .i64 zr, 230),(gm,arr .i64 (aW (ms.set k (r+256 - c - y))), 230)]) (by rw [← e2];rfl))
    have HST:=abC hst
    have uE:Hid ((ms.set k (r+256 - c - y)).length=33):=abC (by rw [abG,hml])
    have HMB:Hid (∀ x∈ms.set k (r+256 - c - y),x < 256):=abC (jN hmb _ _ (by omega))
    have HMR:Hid (∀ j,k+1≤j→(ms.set k (r+256 - c - y)).getD j 0=rs.getD j 0):=abC (by intro j hj;have e:=hmr j (by omega);simp only [abI] at e ⊢; rw [abJ (by omega)];exact e)
    clear hb1 e2 hst st vm hB hml hmb hmr hv hqt Lx
    go_wp2_with fail
    go_roundw
    case rel=>exact ⟨k+1,1,_,by omega,by go_num,rfl,by omega,uE.out,HMB.out,HMR.out,HST.out,HB1.out⟩
    case measure=>simp [intOf];omega
   ·skip
    have qt:=hqt h32
    have hneg:¬ (r:Int) - (c:Int) - (y:Int) < 0:=by omega
    have hst:=st (r - c - y) 0 (by omega)
    rw [← vm] at hst
    have hb1:=hB.cell 2 rfl k (.int .i64 ((r:Int) - (c:Int) - (y:Int)))
    have e2:(arr .i64 (aW ms)).setIfInBounds k (.int .i64 ((r:Int) - (c:Int) - (y:Int)))=arr .i64 (aW (ms.set k (r - c - y))):=by rw [show ((r:Int) - (c:Int) - (y:Int))=(((r - c - y):Nat):Int) by omega,bq,← cZ]
    have HB1:=abC (hb1.cast (l':=[(w.heap.size,arr .i64 r0, 230),(w.heap.size+1,arr .i64 zr, 230),(gm,arr .i64 (aW (ms.set k (r - c - y))), 230)]) (by rw [← e2];rfl))
    have HST:=abC hst
    have uE:Hid ((ms.set k (r - c - y)).length=33):=abC (by rw [abG,hml])
    have HMB:Hid (∀ x∈ms.set k (r - c - y),x < 256):=abC (jN hmb _ _ (by omega))
    have HMR:Hid (∀ j,k+1≤j→(ms.set k (r - c - y)).getD j 0=rs.getD j 0):=abC (by intro j hj;have e:=hmr j (by omega);simp only [abI] at e ⊢; rw [abJ (by omega)];exact e)
    clear hb1 e2 hst st vm hB hml hmb hmr hv hqt Lx
    go_wp2_with fail
    go_roundw
    case rel=>exact ⟨k+1,0,_,by omega,by go_num,rfl,by omega,uE.out,HMB.out,HMR.out,HST.out,HB1.out⟩
    case measure=>simp [intOf];omega
  ·by_cases hbr:r < y+c
   ·skip
    have y0:=Lx (by omega)
    have hneg:(r:Int) - (c:Int) < 0:=by omega
    have hst:=st (r+256 - c - y) 1 (by omega)
    rw [← vm] at hst
    have hb1:=hB.cell 2 rfl k (.int .i64 ((r:Int) - (c:Int)+256))
    have e2:(arr .i64 (aW ms)).setIfInBounds k (.int .i64 ((r:Int) - (c:Int)+256))=arr .i64 (aW (ms.set k (r+256 - c - y))):=by rw [show ((r:Int) - (c:Int)+256)=(((r+256 - c - y):Nat):Int) by omega,bq,← cZ]
    have HB1:=abC (hb1.cast (l':=[(w.heap.size,arr .i64 r0, 230),(w.heap.size+1,arr .i64 zr, 230),(gm,arr .i64 (aW (ms.set k (r+256 - c - y))), 230)]) (by rw [← e2];rfl))
    have HST:=abC hst
    have uE:Hid ((ms.set k (r+256 - c - y)).length=33):=abC (by rw [abG,hml])
    have HMB:Hid (∀ x∈ms.set k (r+256 - c - y),x < 256):=abC (jN hmb _ _ (by omega))
    have HMR:Hid (∀ j,k+1≤j→(ms.set k (r+256 - c - y)).getD j 0=rs.getD j 0):=abC (by intro j hj;have e:=hmr j (by omega);simp only [abI] at e ⊢; rw [abJ (by omega)];exact e)
    clear hb1 e2 hst st vm hB hml hmb hmr hv hqt Lx
    go_wp2_with fail
    go_roundw
    case rel=>exact ⟨k+1,1,_,by omega,by go_num,rfl,by omega,uE.out,HMB.out,HMR.out,HST.out,HB1.out⟩
    case measure=>simp [intOf];omega
   ·skip
    have y0:=Lx (by omega)
    have hneg:¬ (r:Int) - (c:Int) < 0:=by omega
    have hst:=st (r - c - y) 0 (by omega)
    rw [← vm] at hst
    have hb1:=hB.cell 2 rfl k (.int .i64 ((r:Int) - (c:Int)))
    have e2:(arr .i64 (aW ms)).setIfInBounds k (.int .i64 ((r:Int) - (c:Int)))=arr .i64 (aW (ms.set k (r - c - y))):=by rw [show ((r:Int) - (c:Int))=(((r - c - y):Nat):Int) by omega,bq,← cZ]
    have HB1:=abC (hb1.cast (l':=[(w.heap.size,arr .i64 r0, 230),(w.heap.size+1,arr .i64 zr, 230),(gm,arr .i64 (aW (ms.set k (r - c - y))), 230)]) (by rw [← e2];rfl))
    have HST:=abC hst
    have uE:Hid ((ms.set k (r - c - y)).length=33):=abC (by rw [abG,hml])
    have HMB:Hid (∀ x∈ms.set k (r - c - y),x < 256):=abC (jN hmb _ _ (by omega))
    have HMR:Hid (∀ j,k+1≤j→(ms.set k (r - c - y)).getD j 0=rs.getD j 0):=abC (by intro j hj;have e:=hmr j (by omega);simp only [abI] at e ⊢; rw [abJ (by omega)];exact e)
    clear hb1 e2 hst st vm hB hml hmb hmr hv hqt Lx
    go_wp2_with fail
    go_roundw
    case rel=>exact ⟨k+1,0,_,by omega,by go_num,rfl,by omega,uE.out,HMB.out,HMR.out,HST.out,HB1.out⟩
    case measure=>simp [intOf];omega
 ·obtain rfl:k=33:=by omega
  rw [abL (abM hml),abL (abM QL.out),abL (abM RL.out),QV.out,RV.out] at hv
  have hS:=qW 256 ms hmb
  rw [hml] at hS
  have hdm:=nV 256 (by decide) 33 _ ms hml hmb rfl
  have hml':(aW ms).length=33:=by rw [aG,hml]
  rcases HF.out _ c hv hS hc with ⟨rfl,h1⟩|⟨rfl,h1,h2⟩
  ·have HB:=abC hB
   have H1:=abC h1
   clear hB hv hS hmb hmr hdm hml hml' h1
   go_wp2_with (first|((with_reducible refine aS 33 ?_);refine lL rfl rfl (HB.out.get 0 rfl) rfl (aj _ _) Tryz.underlying230 rfl (Pv iR.out) ?_)|((with_reducible refine aT 2 ?_);refine lS rfl rfl HB 1 rfl rfl rfl (av _ _ iR.out HLzr.out) (Da iR.out) (ak _ _) ?_;intro w7 fC))
   (try simp only [Exit.inBlock,Exit.then])
   refine bodyPost_ret (results_cell_row rfl _ _ (w.heap.size+1) 230 _ (0,0) _ rfl (fC.out.get 1 rfl) Tryz.underlying230 rfl (Da iR.out)) rfl ?_
   exact ⟨by rw [Cm.out,CV.out,HV.out,if_pos H1.out],fC.out.below⟩
  ·rw [h2] at hdm
   obtain ⟨m0,hm0⟩:∃ x,x=aW ms:=⟨_,rfl⟩
   rw [← hm0] at hB hml'
   have HB:=abC hB
   have H1:=abC h1
   have uE:=abC hml'
   have HM0:Hid (m0=aW (bD 256 33 (N - q))):=abC (by rw [hm0,← hdm])
   clear hB hv hS hmb hmr hdm hml hml' h1 h2 hm0
   go_wp2_with (first|((with_reducible refine aS 34 ?_);refine lL rfl rfl (HB.out.get 2 rfl) rfl (aj _ _) Tryz.underlying230 rfl (Pv uE.out) ?_)|((with_reducible refine aT 2 ?_);refine lS rfl rfl HB 1 rfl rfl rfl (av _ _ uE.out HLzr.out) (Da uE.out) (ak _ _) ?_;intro w7 fC))
   (try simp only [Exit.inBlock,Exit.then])
   refine bodyPost_ret (results_cell_row rfl _ _ (w.heap.size+1) 230 _ (0,0) _ rfl (fC.out.get 1 rfl) Tryz.underlying230 rfl (Da uE.out)) rfl ?_
   exact ⟨by rw [HM0.out,HV.out,if_neg H1.out],fC.out.below⟩
end Go.Proofs.YthdgbgleklkaiaaGreatDoor.Rd
