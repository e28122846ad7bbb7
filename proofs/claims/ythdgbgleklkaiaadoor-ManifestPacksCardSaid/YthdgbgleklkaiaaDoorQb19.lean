/- The document's points. Condition: as each theorem says. -/

import Derived.Test.YthdgbgleklkaiaaDoorQb05
import Derived.Test.YthdgbgleklkaiaaDoorQb06
import Derived.Test.YthdgbgleklkaiaaDoorQb11
import Derived.Test.YthdgbgleklkaiaaDoorQb15
import Derived.Test.YthdgbgleklkaiaaDoorQb18
open Go.Lib renaming hid→acD
open List renaming replicate→acE,length_map→acI
open Nat renaming reduceAdd→acF,mod_mul_mod→acG
set_option linter.unusedSimpArgs false
set_option linter.unusedVariables false
set_option maxRecDepth 100000
set_option maxHeartbeats 16000000
namespace Go.Proofs.YthdgbgleklkaiaaDoor.Rd
open Go.RowKit Lm Fp Cu
def abU (o:Option Value):Array Value:=match o with
 | some (.agg c)=>c
 | _ => #[]
theorem Vh {f:Fill} {k:Nat} (h:f k=none) (i:Nat) (v:Value) (hi:i≠k):f.upd i v k=none:=by
 unfold Fill.upd
 rw [if_neg (fun e=>hi e.symm)]
 exact h
theorem nE (w:World):(zeroValue 100).run Tryd.prog w = .ok (.agg (arr .i64 (acE 64 0))) w:=by kernel_rfl
theorem EJ:(Tryd.prog.info? 100).map (·.size)=some 64:=by kernel_rfl
theorem lQ {xs:List Int} (h:xs.length=64):(Tryd.prog.info? 100).map (·.size)=some (arr .i64 xs).size:=by rw [aD,h];exact EJ
theorem Kw {xs:List Int} (h:xs.length=64):(Tryd.prog.info? 100).map (·.size)=some xs.length:=by rw [h];exact EJ
theorem zS {a b c d:List Int} (ha:a.length=16) (hb:b.length=16) (hc:c.length=16) (hd:d.length=16):(a ++ b ++ c ++ d).length=64:=by simp [ha,hb,hc,hd]
theorem rX (k:IntKind) (a b c d:List Int) (n:Nat) (ha:a.length=n) (hb:b.length=n) (hc:c.length=n) (hd:d.length=n) :
  ((arr k (a ++ b ++ c ++ d)).toList.drop 0).take a.length=a.map (Value.int k)∧((arr k (a ++ b ++ c ++ d)).toList.drop n).take b.length=b.map (Value.int k) ∧
  ((arr k (a ++ b ++ c ++ d)).toList.drop (n+n)).take c.length=c.map (Value.int k)∧((arr k (a ++ b ++ c ++ d)).toList.drop (n+n+n)).take d.length=d.map (Value.int k):=by
 have e:a ++ b ++ c ++ d=a ++ (b ++ (c ++ d)):=by simp only [List.append_assoc]
 have _:=hd
 rw [e]
 exact Ti k a b c d n ha hb hc
theorem qC (a b c d:List Int) (ha:a.length=16) (hb:b.length=16) (hc:c.length=16) (hd:d.length=16) (w:World) :
  (Instr.build 100 #[(0, .agg (arr .i64 a)),(1, .agg (arr .i64 b)),(2, .agg (arr .i64 c)),(3, .agg (arr .i64 d))]).run Tryd.prog w = .ok (.agg (arr .i64 (a ++ b ++ c ++ d))) w:=by
 unfold Instr.build
 simp only [Sem.run_bind,nE,Result.andThen_ok,run_underlying Tryd.underlying100]
 refine (congrArg (fun R=>Result.andThen R _) (show _=Result.ok #[((0:Nat),16),(16,16),(2 * 16,16),(3 * 16,16)] w from ?h)).trans ?_
 case h=>kernel_rfl
 simp only [Result.andThen_ok]
 rw [show (Value.agg (arr .i64 (acE 64 0))).cells=arr .i64 (acE 64 0) from rfl,fill4 .i64 16 a b c d (acE 64 0) ha hb hc hd (by simp)]
 rfl
theorem rY {P:Program} {o:Oper} {ev:Operand→Value} {w:World} (t:TypeId) (ps:Array (Nat×Operand)) (ho:o.op = .build t ps) (vs:Array (Nat×Value)) (hvs:ps.toList.map (fun p=>(p.1,ev p.2))=vs.toList) (v:Value) (hrun:(Instr.build t vs).run P w = .ok v w):(execOp ev o).run P w = .ok (.value v) w:=by
 have hv:ps.map (fun p=>(p.1,ev p.2))=vs:=by apply Array.toList_inj.1;rw [Array.toList_map];exact hvs
 simp only [execOp,ho,hv,Sem.run_bind,hrun,Result.andThen_ok]
 rfl
theorem mE:Ud Tryd.prog 98 16:=⟨⟨_, Tryd.underlying98, rfl⟩,by kernel_rfl⟩
theorem rowQ:Ud Tryd.prog 100 64:=⟨⟨_, Tryd.underlying100, rfl⟩,EJ⟩
theorem Ec (w:World):(Instr.build 98 #[]).run Tryd.prog w = .ok (.agg (arr .i64 (acE 16 0))) w:=by kernel_rfl
theorem TU (w:World):(Instr.build 100 #[]).run Tryd.prog w = .ok (.agg (arr .i64 (acE 64 0))) w:=by kernel_rfl
def mG (vs:List Int) (P:Pt):Prop:=∃ x y z t,vs=x ++ y ++ z ++ t∧El x P.x∧El y P.y∧El z P.z∧El t P.t
theorem mG.len {vs:List Int} {P:Pt} (h:mG vs P):vs.length=64:=by
 obtain ⟨x,y,z,t,rfl,h1,h2,h3,h4⟩:=h
 exact zS h1.1 h2.1 h3.1 h4.1
def dL:List Int:=[0x78a3,0x1359,0x4dca,0x75eb,0xd8ab,0x4141,0xa4d,0x70,0xe898,0x7779,0x4079,0x8cc7,0xfe73,0x2b6f,0x6cee,0x5203]
def xL:List Int:=[0xd51a,0x8f25,0x2d60,0xc956,0xa7b2,0x9525,0xc760,0x692c,0xdc5c,0xfdd6,0xe231,0xc0a4,0x53fe,0xcd6e,0x36d3,0x2169]
def yL:List Int:=[0x6658,0x6666,0x6666,0x6666,0x6666,0x6666,0x6666,0x6666,0x6666,0x6666,0x6666,0x6666,0x6666,0x6666,0x6666,0x6666]
theorem dL_el:El dL dd:=by refine ⟨rfl,by decide +kernel,by decide +kernel⟩
theorem xL_el:El xL bx:=by refine ⟨rfl,by decide +kernel,by decide +kernel⟩
theorem yL_el:El yL bY:=by refine ⟨rfl,by decide +kernel,by decide +kernel⟩
def vW (w:World):Prop:=w.rangeAt 3 0 (dL.map (Value.int .i64))
def Ub (w:World):Prop:=w.rangeAt 1 0 (xL.map (Value.int .i64))
def Ua (w:World):Prop:=w.rangeAt 2 0 (yL.map (Value.int .i64))
theorem KJ (a b c:Nat):aA (aA a b) c=aA (aA a c) b:=by
 unfold aA
 rw [acG,acG,Nat.mul_right_comm]
theorem Tm (a b:Nat):aA a b=aA b a:=by unfold aA;rw [Nat.mul_comm]
theorem mul_two (a b:Nat):aL (aA a b) (aA a b)=aA a (aL b b):=by
 unfold aL aA
 rw [← Nat.add_mod,Nat.mul_mod_mod,Nat.mul_add]
theorem tZ (ps qs:List Int) (P Q:Pt) (w:World) (hp:mG ps P) (hq:mG qs Q) (hT:vW w) :
  Calls Tryd.prog 70 #[.agg (arr .i64 ps), .agg (arr .i64 qs)] w fun e w'=>∃ zs,e = .returned (.agg (arr .i64 zs))∧mG zs (iy P Q)∧Below w.heap.size w w':=by
 have HmW:=acD hp.len
 obtain ⟨mx,my,mz,mt,hme,hmx,nX,hmz,hmt⟩:=hp
 have Hmx:=acD hmx
 have HmxL:=acD hmx.1
 have Hmy:=acD nX
 have HmyL:=acD nX.1
 have Hmz:=acD hmz
 have HmzL:=acD hmz.1
 have Hmt:=acD hmt
 have HmtL:=acD hmt.1
 have hmP:=rX .i64 mx my mz mt 16 hmx.1 nX.1 hmz.1 hmt.1
 rw [← hme] at hmP
 have HmP:=acD hmP
 clear hmx nX hmz hmt hme hmP
 have HoW:=acD hq.len
 obtain ⟨ox,oy,oz,ot,hoe,hox,hoy,hoz,hot⟩:=hq
 have Hox:=acD hox
 have HoxL:=acD hox.1
 have Hoy:=acD hoy
 have HoyL:=acD hoy.1
 have Hoz:=acD hoz
 have HozL:=acD hoz.1
 have Hot:=acD hot
 have HotL:=acD hot.1
 have hoP:=rX .i64 ox oy oz ot 16 hox.1 hoy.1 hoz.1 hot.1
 rw [← hoe] at hoP
 have HoP:=acD hoP
 clear hox hoy hoz hot hoe hoP
 obtain ⟨dl,hdl⟩:∃ x,x=dL:=⟨_,rfl⟩
 have HD:Hid (El dl dd):=acD (by rw [hdl];exact dL_el)
 have yV:=acD HD.out.1
 unfold vW at hT
 rw [← hdl] at hT
 have HT:=acD hT
 obtain ⟨ze,iM⟩:∃ zs:List Int,zs=acE 16 0:=⟨_,rfl⟩
 have dN:Hid (∀ w,(zeroValue 98).run Tryd.prog w = .ok (.agg (arr .i64 ze)) w):=acD (by intro w;rw [iM];exact gJ w)
 have dG:Hid (ze.length=16):=acD (by rw [iM];rfl)
 obtain ⟨zp,yI⟩:∃ zs:List Int,zs=acE 64 0:=⟨_,rfl⟩
 have xZ:Hid (∀ w,(zeroValue 100).run Tryd.prog w = .ok (.agg (arr .i64 zp)) w):=acD (by intro w;rw [yI];exact nE w)
 have jB:Hid (zp.length=64):=acD (by rw [yI];rfl)
 have bQ:=acD (bM.three w (arr .i64 ps) (arr .i64 qs) (arr .i64 zp) 100 100 100)
 clear iM yI hdl hT
 go_enter Tryd.func70, Tryd.ntmps70
 go_upto_region 1 with (first|((with_reducible refine aS 4 ?_);refine aj rfl 100 rfl _ (xZ.out _) ?_))
 (try simp only [World.size_alloc,Act.put,sA,sZ,sS])
 generalize (((w.alloc (.cells (arr .i64 ps) 100)).alloc (.cells (arr .i64 qs) 100)).alloc (.cells (arr .i64 zp) 100))=wb at bQ ⊢
 refine gP (T:=fun _=>False) (w:=w) (sy:=[Yp (w.heap.size) 16,Yr .i64 my,Yp (w.heap.size) 0,Yr .i64 mx,Ys .i64 (fun z=>El z (aX P.y P.x)),Yp (w.heap.size+1) 16,Yr .i64 oy,Yp (w.heap.size+1) 0,Yr .i64 ox,Ys .i64 (fun z=>El z (aX Q.y Q.x)),Ys .i64 (fun z=>El z (aA (aX P.y P.x) (aX Q.y Q.x))),Yn (arr .i64 ze) 98, Y0]) (pt:=[(12,14,TM .i64 (fun z=>El z (aA (aX P.y P.x) (aX Q.y Q.x))) 98)]) (by kernel_rfl) (by kernel_rfl) (by kernel_rfl) bQ.out.holds (fun hW=>?sa1) (fun qa1 xa1 ua1 _ hH=>?ea1)
 case sa1 =>
  refine jD hW ?_
  refine vY hW ?_ 0 16 (arr .i64 ps) 100 mE HmyL.out (HmP.out.2.1)
  refine jD hW ?_
  refine vY hW ?_ 0 0 (arr .i64 ps) 100 mE HmxL.out (HmP.out.1)
  refine vZ hW ?_ (k := .i64) (R:=(fun z=>El z (aX P.y P.x))) (.h (.agg (arr .i64 my))) (.h (.agg (arr .i64 mx))) (fun _ _ _ hA hB=>by cases hA;cases hB;exact ji _ _ _ _ _ Hmy.out Hmx.out)
  refine jD hW ?_
  refine vY hW ?_ 1 16 (arr .i64 qs) 100 mE HoyL.out (HoP.out.2.1)
  refine jD hW ?_
  refine vY hW ?_ 1 0 (arr .i64 qs) 100 mE HoxL.out (HoP.out.1)
  refine vZ hW ?_ (k := .i64) (R:=(fun z=>El z (aX Q.y Q.x))) (.h (.agg (arr .i64 oy))) (.h (.agg (arr .i64 ox))) (fun _ _ _ hA hB=>by cases hA;cases hB;exact ji _ _ _ _ _ Hoy.out Hox.out)
  refine vZ hW ?_ (k := .i64) (R:=(fun z=>El z (aA (aX P.y P.x) (aX Q.y Q.x)))) (.s 4 .i64 (fun z=>El z (aX P.y P.x))) (.s 9 .i64 (fun z=>El z (aX Q.y Q.x))) (fun _ _ _ hA hB=>by obtain ⟨xa1_4,rfl,hz⟩:=hA;have Ra1_4:=acD hz;have HLa1_4:=acD (show xa1_4.length=_ from hz.1);obtain ⟨xa1_9,rfl,hz⟩:=hB;have Ra1_9:=acD hz;have HLa1_9:=acD (show xa1_9.length=_ from hz.1);exact bL _ _ _ _ _ Ra1_4.out Ra1_9.out)
  refine SyA hW ?_ dN.out
  refine SySr hW ?_ (k := .i64) (R:=(fun z=>El z (aA (aX P.y P.x) (aX Q.y Q.x)))) (t := 98) (p:=Cr (arr .i64 ze) 98) 14 10 mE (fun z h=>h.1) (fun o h=>⟨_,h,asz dG.out⟩) (by kernel_rfl) (by kernel_rfl)
  exact SyN
 case ea1 =>
 obtain ⟨rM,hz,hH⟩:=hH.opn 14 (g:=(qa1 11)) (k := .i64) (R:=(fun z=>El z (aA (aX P.y P.x) (aX Q.y Q.x)))) (t := 98) (by kernel_rfl)
 have QC:=acD hz
 have QF:=acD (show rM.length=_ from hz.1)
 clear hz
 have HBa1:=acD (hH.blk [0,1,2,14] [(w.heap.size,arr .i64 ps, 100),(w.heap.size+1,arr .i64 qs, 100),(w.heap.size+1+1,arr .i64 zp, 100),((qa1 11),arr .i64 rM, 98)] (by decide) (by kernel_rfl))
 simp only [lay,Sy.at,CV,Yr,Yv,Yp,Yq,Yn,Y0,Ys,Act.put,sA,sZ,sS,acF]
 clear hH bQ
 (try simp only [Exit.then])
 go_upto_region 2 with fail
 refine gP (T:=fun _=>False) (w:=w) (sy:=[Yp (w.heap.size) 16,Yr .i64 my,Yp (w.heap.size) 0,Yr .i64 mx,Ys .i64 (fun z=>El z (aL P.y P.x)),Yp (w.heap.size+1) 16,Yr .i64 oy,Yp (w.heap.size+1) 0,Yr .i64 ox,Ys .i64 (fun z=>El z (aL Q.y Q.x)),Ys .i64 (fun z=>El z (aA (aL P.y P.x) (aL Q.y Q.x))),Yn (arr .i64 ze) 98, Y0]) (pt:=[(12,15,TM .i64 (fun z=>El z (aA (aL P.y P.x) (aL Q.y Q.x))) 98)]) (by kernel_rfl) (by kernel_rfl) (by kernel_rfl) HBa1.out.holds (fun hW=>?sa2) (fun qa2 xa2 ua2 _ hH=>?ea2)
 case sa2 =>
  refine jD hW ?_
  refine vY hW ?_ 0 16 (arr .i64 ps) 100 mE HmyL.out (HmP.out.2.1)
  refine jD hW ?_
  refine vY hW ?_ 0 0 (arr .i64 ps) 100 mE HmxL.out (HmP.out.1)
  refine vZ hW ?_ (k := .i64) (R:=(fun z=>El z (aL P.y P.x))) (.h (.agg (arr .i64 my))) (.h (.agg (arr .i64 mx))) (fun _ _ _ hA hB=>by cases hA;cases hB;exact iW _ _ _ _ _ Hmy.out Hmx.out)
  refine jD hW ?_
  refine vY hW ?_ 1 16 (arr .i64 qs) 100 mE HoyL.out (HoP.out.2.1)
  refine jD hW ?_
  refine vY hW ?_ 1 0 (arr .i64 qs) 100 mE HoxL.out (HoP.out.1)
  refine vZ hW ?_ (k := .i64) (R:=(fun z=>El z (aL Q.y Q.x))) (.h (.agg (arr .i64 oy))) (.h (.agg (arr .i64 ox))) (fun _ _ _ hA hB=>by cases hA;cases hB;exact iW _ _ _ _ _ Hoy.out Hox.out)
  refine vZ hW ?_ (k := .i64) (R:=(fun z=>El z (aA (aL P.y P.x) (aL Q.y Q.x)))) (.s 4 .i64 (fun z=>El z (aL P.y P.x))) (.s 9 .i64 (fun z=>El z (aL Q.y Q.x))) (fun _ _ _ hA hB=>by obtain ⟨xa2_4,rfl,hz⟩:=hA;have Ra2_4:=acD hz;have HLa2_4:=acD (show xa2_4.length=_ from hz.1);obtain ⟨xa2_9,rfl,hz⟩:=hB;have Ra2_9:=acD hz;have HLa2_9:=acD (show xa2_9.length=_ from hz.1);exact bL _ _ _ _ _ Ra2_4.out Ra2_9.out)
  refine SyA hW ?_ dN.out
  refine SySr hW ?_ (k := .i64) (R:=(fun z=>El z (aA (aL P.y P.x) (aL Q.y Q.x)))) (t := 98) (p:=Cr (arr .i64 ze) 98) 15 10 mE (fun z h=>h.1) (fun o h=>⟨_,h,asz dG.out⟩) (by kernel_rfl) (by kernel_rfl)
  exact SyN
 case ea2 =>
 obtain ⟨vk,hz,hH⟩:=hH.opn 15 (g:=(qa2 11)) (k := .i64) (R:=(fun z=>El z (aA (aL P.y P.x) (aL Q.y Q.x)))) (t := 98) (by kernel_rfl)
 have QA:=acD hz
 have QE:=acD (show vk.length=_ from hz.1)
 clear hz
 have HBa2:=acD (hH.blk [0,1,2,3,15] [(w.heap.size,arr .i64 ps, 100),(w.heap.size+1,arr .i64 qs, 100),(w.heap.size+1+1,arr .i64 zp, 100),((qa1 11),arr .i64 rM, 98),((qa2 11),arr .i64 vk, 98)] (by decide) (by kernel_rfl))
 simp only [lay,Sy.at,CV,Yr,Yv,Yp,Yq,Yn,Y0,Ys,Act.put,sA,sZ,sS,acF]
 clear hH HBa1
 (try simp only [Exit.then])
 go_upto_region 3 with fail
 refine gP (T:=fun _=>False) (w:=w) (sy:=[Yp (w.heap.size) 48,Yr .i64 mt,Yp (w.heap.size+1) 48,Yr .i64 ot,Ys .i64 (fun z=>El z (aA P.t Q.t)),Yr .i64 dl,Yr .i64 dl,Ys .i64 (fun z=>El z (aL dd dd)),Ys .i64 (fun z=>El z (aA (aA P.t Q.t) (aL dd dd))),Yn (arr .i64 ze) 98, Y0]) (pt:=[(10,14,TM .i64 (fun z=>El z (aA (aA P.t Q.t) (aL dd dd))) 98)]) (by kernel_rfl) (by kernel_rfl) (by kernel_rfl) HBa2.out.holds (fun hW=>?sa3) (fun qa3 xa3 ua3 _ hH=>?ea3)
 case sa3 =>
  refine jD hW ?_
  refine vY hW ?_ 0 48 (arr .i64 ps) 100 mE HmtL.out (HmP.out.2.2.2)
  refine jD hW ?_
  refine vY hW ?_ 1 48 (arr .i64 qs) 100 mE HotL.out (HoP.out.2.2.2)
  refine vZ hW ?_ (k := .i64) (R:=(fun z=>El z (aA P.t Q.t))) (.h (.agg (arr .i64 mt))) (.h (.agg (arr .i64 ot))) (fun _ _ _ hA hB=>by cases hA;cases hB;exact bL _ _ _ _ _ Hmt.out Hot.out)
  refine SyG hW ?_ (fun u b K k h=>by refine wp_load_mid 98 (.global 3) rfl 3 0 rfl (dl.map (Value.int .i64)) _ (bC HT.out (Kept.toBelow k (Nat.le_refl _) (fun _ e=>e.elim))) Tryd.underlying98 rfl (by rw [acI];exact bJ yV.out) h)
  refine SyG hW ?_ (fun u b K k h=>by refine wp_load_mid 98 (.global 3) rfl 3 0 rfl (dl.map (Value.int .i64)) _ (bC HT.out (Kept.toBelow k (Nat.le_refl _) (fun _ e=>e.elim))) Tryd.underlying98 rfl (by rw [acI];exact bJ yV.out) h)
  refine vZ hW ?_ (k := .i64) (R:=(fun z=>El z (aL dd dd))) (.h (.agg (arr .i64 dl))) (.h (.agg (arr .i64 dl))) (fun _ _ _ hA hB=>by cases hA;cases hB;exact iW _ _ _ _ _ HD.out HD.out)
  refine vZ hW ?_ (k := .i64) (R:=(fun z=>El z (aA (aA P.t Q.t) (aL dd dd)))) (.s 4 .i64 (fun z=>El z (aA P.t Q.t))) (.s 7 .i64 (fun z=>El z (aL dd dd))) (fun _ _ _ hA hB=>by obtain ⟨xa3_4,rfl,hz⟩:=hA;have Ra3_4:=acD hz;have HLa3_4:=acD (show xa3_4.length=_ from hz.1);obtain ⟨xa3_7,rfl,hz⟩:=hB;have Ra3_7:=acD hz;have HLa3_7:=acD (show xa3_7.length=_ from hz.1);exact bL _ _ _ _ _ Ra3_4.out Ra3_7.out)
  refine SyA hW ?_ dN.out
  refine SySr hW ?_ (k := .i64) (R:=(fun z=>El z (aA (aA P.t Q.t) (aL dd dd)))) (t := 98) (p:=Cr (arr .i64 ze) 98) 14 8 mE (fun z h=>h.1) (fun o h=>⟨_,h,asz dG.out⟩) (by kernel_rfl) (by kernel_rfl)
  exact SyN
 case ea3 =>
 obtain ⟨yZ,hz,hH⟩:=hH.opn 14 (g:=(qa3 9)) (k := .i64) (R:=(fun z=>El z (aA (aA P.t Q.t) (aL dd dd)))) (t := 98) (by kernel_rfl)
 have Qz:=acD hz
 have QD:=acD (show yZ.length=_ from hz.1)
 clear hz
 have HBa3:=acD (hH.blk [0,1,2,3,4,14] [(w.heap.size,arr .i64 ps, 100),(w.heap.size+1,arr .i64 qs, 100),(w.heap.size+1+1,arr .i64 zp, 100),((qa1 11),arr .i64 rM, 98),((qa2 11),arr .i64 vk, 98),((qa3 9),arr .i64 yZ, 98)] (by decide) (by kernel_rfl))
 simp only [lay,Sy.at,CV,Yr,Yv,Yp,Yq,Yn,Y0,Ys,Act.put,sA,sZ,sS,acF]
 clear hH HBa2
 (try simp only [Exit.then])
 go_upto_region 5 with (first|((with_reducible refine aS 45 ?_);refine ak rfl 98 _ rfl (w.heap.size) (32) _ 100 (0,0) _ (HBa3.out.get 0 rfl) rfl .i64 mz (HmP.out.2.2.1) Tryd.underlying98 rfl (bJ HmzL.out) ?_)|((with_reducible refine aS 47 ?_);refine ak rfl 98 _ rfl (w.heap.size+1) (32) _ 100 (0,0) _ (HBa3.out.get 1 rfl) rfl .i64 oz (HoP.out.2.2.1) Tryd.underlying98 rfl (bJ HozL.out) ?_)|((with_reducible show Calls _ 68 #[.agg _, .agg _] _ _);go_at_call 68; refine (bL _ _ _ _ _ Hmz.out Hoz.out).mono ?_;rintro e w101 ⟨z101,rfl,h101,hb101⟩;have HZ101:=acD h101;have JB:=acD h101.1;clear h101;have HB101:=acD (HBa3.out.kept hb101);clear hb101)|((with_reducible refine aS 8 ?_);refine lA rfl rfl (dN.out _) HB101 ?_;intro MK U5 rJ; clear HB101)|((with_reducible refine aT 8 (x:=(Operand.tmp 48)) ?_);refine lS rfl rfl rJ 6 rfl rfl rfl (ay _ _ JB.out dG.out) (cZ JB.out) (av _ _) ?_;intro U4 uY;clear rJ))
 go_upto_region 6 with (first|((with_reducible refine aS 49 ?_);refine lL rfl rfl (uY.out.get 6 rfl) rfl (au _ _) Tryd.underlying98 rfl (bJ JB.out) ?_)|((with_reducible refine aS 50 ?_);refine lL rfl rfl (uY.out.get 6 rfl) rfl (au _ _) Tryd.underlying98 rfl (bJ JB.out) ?_)|((with_reducible show Calls _ 77 #[.agg _, .agg _] _ _);go_at_call 77; refine (iW _ _ _ _ _ HZ101.out HZ101.out).mono ?_;rintro e w104 ⟨z104,rfl,h104,IX⟩;have HZ104:=acD h104;have QX:=acD h104.1;clear h104;have rH:=acD (uY.out.kept IX);clear IX;clear uY)|((with_reducible refine aT 8 (x:=(Operand.tmp 51)) ?_);refine lS rfl rfl rH 6 rfl rfl rfl (ay _ _ QX.out JB.out) (cZ QX.out) (av _ _) ?_;intro w105 Eu;clear rH))
 go_upto_region 7 with (first|((with_reducible refine aS 52 ?_);refine lL rfl rfl (Eu.out.get 4 rfl) rfl (au _ _) Tryd.underlying98 rfl (bJ QE.out) ?_)|((with_reducible refine aS 53 ?_);refine lL rfl rfl (Eu.out.get 3 rfl) rfl (au _ _) Tryd.underlying98 rfl (bJ QF.out) ?_)|((with_reducible show Calls _ 78 #[.agg _, .agg _] _ _);go_at_call 78; refine (ji _ _ _ _ _ QA.out QC.out).mono ?_;rintro e w106 ⟨J6,rfl,h106,hb106⟩;have HZ106:=acD h106;have QW:=acD h106.1;clear h106;have Et:=acD (Eu.out.kept hb106);clear hb106;clear Eu)|((with_reducible refine aS 9 ?_);refine lA rfl rfl (dN.out _) Et ?_;intro g107 w107 rG; clear Et)|((with_reducible refine aT 9 (x:=(Operand.tmp 54)) ?_);refine lS rfl rfl rG 7 rfl rfl rfl (ay _ _ QW.out dG.out) (cZ QW.out) (av _ _) ?_;intro w108 xP;clear rG))
 go_upto_region 8 with (first|((with_reducible refine aS 55 ?_);refine lL rfl rfl (xP.out.get 6 rfl) rfl (au _ _) Tryd.underlying98 rfl (bJ QX.out) ?_)|((with_reducible refine aS 56 ?_);refine lL rfl rfl (xP.out.get 5 rfl) rfl (au _ _) Tryd.underlying98 rfl (bJ QD.out) ?_)|((with_reducible show Calls _ 78 #[.agg _, .agg _] _ _);go_at_call 78; refine (ji _ _ _ _ _ HZ104.out Qz.out).mono ?_;rintro e w109 ⟨z109,rfl,h109,hb109⟩;have HZ109:=acD h109;have QU:=acD h109.1;clear h109;have Es:=acD (xP.out.kept hb109);clear hb109;clear xP)|((with_reducible refine aS 10 ?_);refine lA rfl rfl (dN.out _) Es ?_;intro g110 w110 BO; clear Es)|((with_reducible refine aT 10 (x:=(Operand.tmp 57)) ?_);refine lS rfl rfl BO 8 rfl rfl rfl (ay _ _ QU.out dG.out) (cZ QU.out) (av _ _) ?_;intro w111 BM;clear BO))
 go_upto_region 9 with (first|((with_reducible refine aS 58 ?_);refine lL rfl rfl (BM.out.get 6 rfl) rfl (au _ _) Tryd.underlying98 rfl (bJ QX.out) ?_)|((with_reducible refine aS 59 ?_);refine lL rfl rfl (BM.out.get 5 rfl) rfl (au _ _) Tryd.underlying98 rfl (bJ QD.out) ?_)|((with_reducible show Calls _ 77 #[.agg _, .agg _] _ _);go_at_call 77; refine (iW _ _ _ _ _ HZ104.out Qz.out).mono ?_;rintro e w112 ⟨J5,rfl,h112,IV⟩;have HZ112:=acD h112;have QT:=acD h112.1;clear h112;have Rc:=acD (BM.out.kept IV);clear IV;clear BM)|((with_reducible refine aS 11 ?_);refine lA rfl rfl (dN.out _) Rc ?_;intro g113 w113 JK; clear Rc)|((with_reducible refine aT 11 (x:=(Operand.tmp 60)) ?_);refine lS rfl rfl JK 9 rfl rfl rfl (ay _ _ QT.out dG.out) (cZ QT.out) (av _ _) ?_;intro w114 Rb;clear JK))
 go_upto_region 10 with (first|((with_reducible refine aS 61 ?_);refine lL rfl rfl (Rb.out.get 4 rfl) rfl (au _ _) Tryd.underlying98 rfl (bJ QE.out) ?_)|((with_reducible refine aS 62 ?_);refine lL rfl rfl (Rb.out.get 3 rfl) rfl (au _ _) Tryd.underlying98 rfl (bJ QF.out) ?_)|((with_reducible show Calls _ 77 #[.agg _, .agg _] _ _);go_at_call 77; refine (iW _ _ _ _ _ QA.out QC.out).mono ?_;rintro e w115 ⟨J4,rfl,h115,hb115⟩;have HZ115:=acD h115;have QS:=acD h115.1;clear h115;have HB115:=acD (Rb.out.kept hb115);clear hb115;clear Rb)|((with_reducible refine aS 12 ?_);refine lA rfl rfl (dN.out _) HB115 ?_;intro g116 w116 BL; clear HB115)|((with_reducible refine aT 12 (x:=(Operand.tmp 63)) ?_);refine lS rfl rfl BL 10 rfl rfl rfl (ay _ _ QS.out dG.out) (cZ QS.out) (av _ _) ?_;intro w117 Ra;clear BL))
 refine gP (T:=fun _=>False) (w:=w) (sy:=[Yr .i64 J6,Yr .i64 z109,Ys .i64 (fun z=>El z (aA (aX (aA (aL P.y P.x) (aL Q.y Q.x)) (aA (aX P.y P.x) (aX Q.y Q.x))) (aX (aL (aA P.z Q.z) (aA P.z Q.z)) (aA (aA P.t Q.t) (aL dd dd))))),Yr .i64 J4,Yr .i64 J5,Ys .i64 (fun z=>El z (aA (aL (aA (aL P.y P.x) (aL Q.y Q.x)) (aA (aX P.y P.x) (aX Q.y Q.x))) (aL (aL (aA P.z Q.z) (aA P.z Q.z)) (aA (aA P.t Q.t) (aL dd dd))))),Yr .i64 z109,Yr .i64 J5,Ys .i64 (fun z=>El z (aA (aX (aL (aA P.z Q.z) (aA P.z Q.z)) (aA (aA P.t Q.t) (aL dd dd))) (aL (aL (aA P.z Q.z) (aA P.z Q.z)) (aA (aA P.t Q.t) (aL dd dd))))),Yr .i64 J6,Yr .i64 J4,Ys .i64 (fun z=>El z (aA (aX (aA (aL P.y P.x) (aL Q.y Q.x)) (aA (aX P.y P.x) (aX Q.y Q.x))) (aL (aA (aL P.y P.x) (aL Q.y Q.x)) (aA (aX P.y P.x) (aX Q.y Q.x))))),Ys .i64 (fun z=>mG z (⟨(aA (aX (aA (aL P.y P.x) (aL Q.y Q.x)) (aA (aX P.y P.x) (aX Q.y Q.x))) (aX (aL (aA P.z Q.z) (aA P.z Q.z)) (aA (aA P.t Q.t) (aL dd dd)))),(aA (aL (aA (aL P.y P.x) (aL Q.y Q.x)) (aA (aX P.y P.x) (aX Q.y Q.x))) (aL (aL (aA P.z Q.z) (aA P.z Q.z)) (aA (aA P.t Q.t) (aL dd dd)))),(aA (aX (aL (aA P.z Q.z) (aA P.z Q.z)) (aA (aA P.t Q.t) (aL dd dd))) (aL (aL (aA P.z Q.z) (aA P.z Q.z)) (aA (aA P.t Q.t) (aL dd dd)))),(aA (aX (aA (aL P.y P.x) (aL Q.y Q.x)) (aA (aX P.y P.x) (aX Q.y Q.x))) (aL (aA (aL P.y P.x) (aL Q.y Q.x)) (aA (aX P.y P.x) (aX Q.y Q.x))))⟩:Pt)),Y0]) (pt:=[(13,2,TM .i64 (fun z=>mG z (⟨(aA (aX (aA (aL P.y P.x) (aL Q.y Q.x)) (aA (aX P.y P.x) (aX Q.y Q.x))) (aX (aL (aA P.z Q.z) (aA P.z Q.z)) (aA (aA P.t Q.t) (aL dd dd)))),(aA (aL (aA (aL P.y P.x) (aL Q.y Q.x)) (aA (aX P.y P.x) (aX Q.y Q.x))) (aL (aL (aA P.z Q.z) (aA P.z Q.z)) (aA (aA P.t Q.t) (aL dd dd)))),(aA (aX (aL (aA P.z Q.z) (aA P.z Q.z)) (aA (aA P.t Q.t) (aL dd dd))) (aL (aL (aA P.z Q.z) (aA P.z Q.z)) (aA (aA P.t Q.t) (aL dd dd)))),(aA (aX (aA (aL P.y P.x) (aL Q.y Q.x)) (aA (aX P.y P.x) (aX Q.y Q.x))) (aL (aA (aL P.y P.x) (aL Q.y Q.x)) (aA (aX P.y P.x) (aX Q.y Q.x))))⟩:Pt)) 100)]) (by kernel_rfl) (by kernel_rfl) (by kernel_rfl) Ra.out.holds (fun hW=>?sa10) (fun qa10 xa10 ua10 _ hH=>?ea10)
 case sa10 =>
  refine vY hW ?_ 7 0 (arr .i64 J6) 98 mE QW.out (au _ _)
  refine vY hW ?_ 8 0 (arr .i64 z109) 98 mE QU.out (au _ _)
  refine vZ hW ?_ (k := .i64) (R:=(fun z=>El z (aA (aX (aA (aL P.y P.x) (aL Q.y Q.x)) (aA (aX P.y P.x) (aX Q.y Q.x))) (aX (aL (aA P.z Q.z) (aA P.z Q.z)) (aA (aA P.t Q.t) (aL dd dd)))))) (.h (.agg (arr .i64 J6))) (.h (.agg (arr .i64 z109))) (fun _ _ _ hA hB=>by cases hA;cases hB;exact bL _ _ _ _ _ HZ106.out HZ109.out)
  refine vY hW ?_ 10 0 (arr .i64 J4) 98 mE QS.out (au _ _)
  refine vY hW ?_ 9 0 (arr .i64 J5) 98 mE QT.out (au _ _)
  refine vZ hW ?_ (k := .i64) (R:=(fun z=>El z (aA (aL (aA (aL P.y P.x) (aL Q.y Q.x)) (aA (aX P.y P.x) (aX Q.y Q.x))) (aL (aL (aA P.z Q.z) (aA P.z Q.z)) (aA (aA P.t Q.t) (aL dd dd)))))) (.h (.agg (arr .i64 J4))) (.h (.agg (arr .i64 J5))) (fun _ _ _ hA hB=>by cases hA;cases hB;exact bL _ _ _ _ _ HZ115.out HZ112.out)
  refine vY hW ?_ 8 0 (arr .i64 z109) 98 mE QU.out (au _ _)
  refine vY hW ?_ 9 0 (arr .i64 J5) 98 mE QT.out (au _ _)
  refine vZ hW ?_ (k := .i64) (R:=(fun z=>El z (aA (aX (aL (aA P.z Q.z) (aA P.z Q.z)) (aA (aA P.t Q.t) (aL dd dd))) (aL (aL (aA P.z Q.z) (aA P.z Q.z)) (aA (aA P.t Q.t) (aL dd dd)))))) (.h (.agg (arr .i64 z109))) (.h (.agg (arr .i64 J5))) (fun _ _ _ hA hB=>by cases hA;cases hB;exact bL _ _ _ _ _ HZ109.out HZ112.out)
  refine vY hW ?_ 7 0 (arr .i64 J6) 98 mE QW.out (au _ _)
  refine vY hW ?_ 10 0 (arr .i64 J4) 98 mE QS.out (au _ _)
  refine vZ hW ?_ (k := .i64) (R:=(fun z=>El z (aA (aX (aA (aL P.y P.x) (aL Q.y Q.x)) (aA (aX P.y P.x) (aX Q.y Q.x))) (aL (aA (aL P.y P.x) (aL Q.y Q.x)) (aA (aX P.y P.x) (aX Q.y Q.x)))))) (.h (.agg (arr .i64 J6))) (.h (.agg (arr .i64 J4))) (fun _ _ _ hA hB=>by cases hA;cases hB;exact bL _ _ _ _ _ HZ106.out HZ115.out)
  refine SyB4 hW ?_ (k := .i64) (R:=(fun z=>mG z (⟨(aA (aX (aA (aL P.y P.x) (aL Q.y Q.x)) (aA (aX P.y P.x) (aX Q.y Q.x))) (aX (aL (aA P.z Q.z) (aA P.z Q.z)) (aA (aA P.t Q.t) (aL dd dd)))),(aA (aL (aA (aL P.y P.x) (aL Q.y Q.x)) (aA (aX P.y P.x) (aX Q.y Q.x))) (aL (aL (aA P.z Q.z) (aA P.z Q.z)) (aA (aA P.t Q.t) (aL dd dd)))),(aA (aX (aL (aA P.z Q.z) (aA P.z Q.z)) (aA (aA P.t Q.t) (aL dd dd))) (aL (aL (aA P.z Q.z) (aA P.z Q.z)) (aA (aA P.t Q.t) (aL dd dd)))),(aA (aX (aA (aL P.y P.x) (aL Q.y Q.x)) (aA (aX P.y P.x) (aX Q.y Q.x))) (aL (aA (aL P.y P.x) (aL Q.y Q.x)) (aA (aX P.y P.x) (aX Q.y Q.x))))⟩:Pt))) (.s 2 .i64 (fun z=>El z (aA (aX (aA (aL P.y P.x) (aL Q.y Q.x)) (aA (aX P.y P.x) (aX Q.y Q.x))) (aX (aL (aA P.z Q.z) (aA P.z Q.z)) (aA (aA P.t Q.t) (aL dd dd)))))) (.s 5 .i64 (fun z=>El z (aA (aL (aA (aL P.y P.x) (aL Q.y Q.x)) (aA (aX P.y P.x) (aX Q.y Q.x))) (aL (aL (aA P.z Q.z) (aA P.z Q.z)) (aA (aA P.t Q.t) (aL dd dd)))))) (.s 8 .i64 (fun z=>El z (aA (aX (aL (aA P.z Q.z) (aA P.z Q.z)) (aA (aA P.t Q.t) (aL dd dd))) (aL (aL (aA P.z Q.z) (aA P.z Q.z)) (aA (aA P.t Q.t) (aL dd dd)))))) (.s 11 .i64 (fun z=>El z (aA (aX (aA (aL P.y P.x) (aL Q.y Q.x)) (aA (aX P.y P.x) (aX Q.y Q.x))) (aL (aA (aL P.y P.x) (aL Q.y Q.x)) (aA (aX P.y P.x) (aX Q.y Q.x)))))) (fun _ _ _ _ hA hB hC hD=>by obtain ⟨xa10_2,rfl,hz⟩:=hA;have Ra10_2:=acD hz;have HLa10_2:=acD (show xa10_2.length=_ from hz.1);obtain ⟨xa10_5,rfl,hz⟩:=hB;have Ra10_5:=acD hz;have HLa10_5:=acD (show xa10_5.length=_ from hz.1);obtain ⟨xa10_8,rfl,hz⟩:=hC;have Ra10_8:=acD hz;have HLa10_8:=acD (show xa10_8.length=_ from hz.1);obtain ⟨xa10_11,rfl,hz⟩:=hD;have Ra10_11:=acD hz;have HLa10_11:=acD (show xa10_11.length=_ from hz.1);exact ⟨_,qC _ _ _ _ HLa10_2.out HLa10_5.out HLa10_8.out HLa10_11.out,⟨_,_,_,_,rfl,Ra10_2.out,Ra10_5.out,Ra10_8.out,Ra10_11.out⟩⟩)
  refine SySr hW ?_ (k := .i64) (R:=(fun z=>mG z (⟨(aA (aX (aA (aL P.y P.x) (aL Q.y Q.x)) (aA (aX P.y P.x) (aX Q.y Q.x))) (aX (aL (aA P.z Q.z) (aA P.z Q.z)) (aA (aA P.t Q.t) (aL dd dd)))),(aA (aL (aA (aL P.y P.x) (aL Q.y Q.x)) (aA (aX P.y P.x) (aX Q.y Q.x))) (aL (aL (aA P.z Q.z) (aA P.z Q.z)) (aA (aA P.t Q.t) (aL dd dd)))),(aA (aX (aL (aA P.z Q.z) (aA P.z Q.z)) (aA (aA P.t Q.t) (aL dd dd))) (aL (aL (aA P.z Q.z) (aA P.z Q.z)) (aA (aA P.t Q.t) (aL dd dd)))),(aA (aX (aA (aL P.y P.x) (aL Q.y Q.x)) (aA (aX P.y P.x) (aX Q.y Q.x))) (aL (aA (aL P.y P.x) (aL Q.y Q.x)) (aA (aX P.y P.x) (aX Q.y Q.x))))⟩:Pt))) (t := 100) (p:=Cr (arr .i64 zp) 100) 2 12 rowQ (fun z h=>h.len) (fun o h=>⟨_,h,asz jB.out⟩) (by kernel_rfl) (by kernel_rfl)
  exact SyN
 case ea10 =>
 obtain ⟨UM,hz,hH⟩:=hH.opn 2 (g:=w.heap.size+1+1) (k := .i64) (R:=(fun z=>mG z (⟨(aA (aX (aA (aL P.y P.x) (aL Q.y Q.x)) (aA (aX P.y P.x) (aX Q.y Q.x))) (aX (aL (aA P.z Q.z) (aA P.z Q.z)) (aA (aA P.t Q.t) (aL dd dd)))),(aA (aL (aA (aL P.y P.x) (aL Q.y Q.x)) (aA (aX P.y P.x) (aX Q.y Q.x))) (aL (aL (aA P.z Q.z) (aA P.z Q.z)) (aA (aA P.t Q.t) (aL dd dd)))),(aA (aX (aL (aA P.z Q.z) (aA P.z Q.z)) (aA (aA P.t Q.t) (aL dd dd))) (aL (aL (aA P.z Q.z) (aA P.z Q.z)) (aA (aA P.t Q.t) (aL dd dd)))),(aA (aX (aA (aL P.y P.x) (aL Q.y Q.x)) (aA (aX P.y P.x) (aX Q.y Q.x))) (aL (aA (aL P.y P.x) (aL Q.y Q.x)) (aA (aX P.y P.x) (aX Q.y Q.x))))⟩:Pt))) (t := 100) (by kernel_rfl)
 have RYa10_2:=acD hz
 have HYa10_2:=acD (show UM.length=_ from hz.len)
 clear hz
 have HBa10:=acD (hH.blk [0,1,2,3,4,5,6,7,8,9,10] [(w.heap.size,arr .i64 ps, 100),(w.heap.size+1,arr .i64 qs, 100),(w.heap.size+1+1,arr .i64 UM, 100),((qa1 11),arr .i64 rM, 98),((qa2 11),arr .i64 vk, 98),((qa3 9),arr .i64 yZ, 98),(MK,arr .i64 z104, 98),(g107,arr .i64 J6, 98),(g110,arr .i64 z109, 98),(g113,arr .i64 J5, 98),(g116,arr .i64 J4, 98)] (by decide) (by kernel_rfl))
 simp only [lay,Sy.at,CV,Yr,Yv,Yp,Yq,Yn,Y0,Ys,Act.put,sA,sZ,sS,acF]
 clear hH Ra
 (try simp only [Exit.then])
 go_wp2_with fail
 refine bodyPost_ret (results_cell_row rfl _ _ (w.heap.size+1+1) 100 _ (0,0) _ rfl (HBa10.out.get 2 rfl) Tryd.underlying100 rfl (lQ HYa10_2.out)) rfl ?_
 refine ⟨_,rfl,?_,HBa10.out.below⟩
 obtain ⟨x,y,z,t,e,h1,h2,h3,h4⟩:=RYa10_2.out
 refine ⟨x,y,z,t,e,?_,?_,?_,h4⟩
 ·have:=h1;rw [KJ,mul_two] at this;exact this
 ·have:=h2
  rw [KJ,mul_two,Tm (aL (aA (aL P.y P.x) (aL Q.y Q.x)) (aA (aX P.y P.x) (aX Q.y Q.x)))] at this
  exact this
 ·have:=h3;rw [KJ,mul_two] at this;exact this
end Go.Proofs.YthdgbgleklkaiaaDoor.Rd
