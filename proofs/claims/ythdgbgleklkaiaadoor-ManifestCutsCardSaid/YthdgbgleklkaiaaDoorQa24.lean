/- The document's points. Condition: as each theorem says. -/

import Derived.Test.YthdgbgleklkaiaaDoorQa03
import Derived.Test.YthdgbgleklkaiaaDoorQa07
import Derived.Test.YthdgbgleklkaiaaDoorQa14
import Derived.Test.YthdgbgleklkaiaaDoorQa18
set_option linter.unusedSimpArgs false
set_option linter.unusedVariables false
set_option maxRecDepth 100000
set_option maxHeartbeats 16000000
namespace Go.Proofs.YthdgbgleklkaiaaDoor.Rd
open Go.RowKit Lm Fp Cu
def Zz (o:Option Value):Array Value:=match o with
 | some (.agg c)=>c
 | _ => #[]
theorem TV {f:Fill} {k:Nat} (h:f k=none) (i:Nat) (v:Value) (hi:i≠k):f.upd i v k=none:=by
 unfold Fill.upd
 rw [if_neg (fun e=>hi e.symm)]
 exact h
theorem mW (w:World):(zeroValue 100).run Tryd.prog w = .ok (.agg (arr .i64 (List.replicate 64 0))) w:=by kernel_rfl
theorem DL:(Tryd.prog.info? 100).map (·.size)=some 64:=by kernel_rfl
theorem lD {xs:List Int} (h:xs.length=64):(Tryd.prog.info? 100).map (·.size)=some (arr .i64 xs).size:=by rw [aF,h];exact DL
theorem JK {xs:List Int} (h:xs.length=64):(Tryd.prog.info? 100).map (·.size)=some xs.length:=by rw [h];exact DL
theorem yX {a b c d:List Int} (ha:a.length=16) (hb:b.length=16) (hc:c.length=16) (hd:d.length=16):(a ++ b ++ c ++ d).length=64:=by simp [ha,hb,hc,hd]
theorem q8 (k:IntKind) (a b c d:List Int) (n:Nat) (ha:a.length=n) (hb:b.length=n) (hc:c.length=n) (hd:d.length=n) :
  ((arr k (a ++ b ++ c ++ d)).toList.drop 0).take a.length=a.map (Value.int k)∧((arr k (a ++ b ++ c ++ d)).toList.drop n).take b.length=b.map (Value.int k) ∧
  ((arr k (a ++ b ++ c ++ d)).toList.drop (n+n)).take c.length=c.map (Value.int k)∧((arr k (a ++ b ++ c ++ d)).toList.drop (n+n+n)).take d.length=d.map (Value.int k):=by
 have e:a ++ b ++ c ++ d=a ++ (b ++ (c ++ d)):=by simp only [List.append_assoc]
 have _:=hd
 rw [e]
 exact Rt k a b c d n ha hb hc
theorem pR (a b c d:List Int) (ha:a.length=16) (hb:b.length=16) (hc:c.length=16) (hd:d.length=16) (w:World) :
  (Instr.build 100 #[(0, .agg (arr .i64 a)),(1, .agg (arr .i64 b)),(2, .agg (arr .i64 c)),(3, .agg (arr .i64 d))]).run Tryd.prog w = .ok (.agg (arr .i64 (a ++ b ++ c ++ d))) w:=by
 unfold Instr.build
 simp only [Sem.run_bind,mW,Result.andThen_ok,run_underlying Tryd.underlying100]
 refine (congrArg (fun R=>Result.andThen R _) (show _=Result.ok #[((0:Nat),16),(16,16),(2 * 16,16),(3 * 16,16)] w from ?h)).trans ?_
 case h=>kernel_rfl
 simp only [Result.andThen_ok]
 rw [show (Value.agg (arr .i64 (List.replicate 64 0))).cells=arr .i64 (List.replicate 64 0) from rfl,fill4 .i64 16 a b c d (List.replicate 64 0) ha hb hc hd (by simp)]
 rfl
theorem ru {P:Program} {o:Oper} {ev:Operand→Value} {w:World} (t:TypeId) (ps:Array (Nat×Operand)) (ho:o.op = .build t ps) (vs:Array (Nat×Value)) (hvs:ps.toList.map (fun p=>(p.1,ev p.2))=vs.toList) (v:Value) (hrun:(Instr.build t vs).run P w = .ok v w):(execOp ev o).run P w = .ok (.value v) w:=by
 have hv:ps.map (fun p=>(p.1,ev p.2))=vs:=by apply Array.toList_inj.1;rw [Array.toList_map];exact hvs
 simp only [execOp,ho,hv,Sem.run_bind,hrun,Result.andThen_ok]
 rfl
theorem lV:Sj Tryd.prog 98 16:=⟨⟨_, Tryd.underlying98, rfl⟩,by kernel_rfl⟩
theorem rowQ:Sj Tryd.prog 100 64:=⟨⟨_, Tryd.underlying100, rfl⟩,DL⟩
theorem Dc (w:World):(Instr.build 98 #[]).run Tryd.prog w = .ok (.agg (arr .i64 (List.replicate 16 0))) w:=by kernel_rfl
theorem R7 (w:World):(Instr.build 100 #[]).run Tryd.prog w = .ok (.agg (arr .i64 (List.replicate 64 0))) w:=by kernel_rfl
def lZ (vs:List Int) (P:Pt):Prop:=∃ x y z t,vs=x ++ y ++ z ++ t∧El x P.x∧El y P.y∧El z P.z∧El t P.t
theorem lZ.len {vs:List Int} {P:Pt} (h:lZ vs P):vs.length=64:=by
 obtain ⟨x,y,z,t,rfl,h1,h2,h3,h4⟩:=h
 exact yX h1.1 h2.1 h3.1 h4.1
def dL:List Int:=[0x78a3,0x1359,0x4dca,0x75eb,0xd8ab,0x4141,0xa4d,0x70,0xe898,0x7779,0x4079,0x8cc7,0xfe73,0x2b6f,0x6cee,0x5203]
def xL:List Int:=[0xd51a,0x8f25,0x2d60,0xc956,0xa7b2,0x9525,0xc760,0x692c,0xdc5c,0xfdd6,0xe231,0xc0a4,0x53fe,0xcd6e,0x36d3,0x2169]
def yL:List Int:=[0x6658,0x6666,0x6666,0x6666,0x6666,0x6666,0x6666,0x6666,0x6666,0x6666,0x6666,0x6666,0x6666,0x6666,0x6666,0x6666]
theorem dL_el:El dL dd:=by refine ⟨rfl,by decide +kernel,by decide +kernel⟩
theorem xL_el:El xL bx:=by refine ⟨rfl,by decide +kernel,by decide +kernel⟩
theorem yL_el:El yL bY:=by refine ⟨rfl,by decide +kernel,by decide +kernel⟩
def vG (w:World):Prop:=w.rangeAt 3 0 (dL.map (Value.int .i64))
def Sg (w:World):Prop:=w.rangeAt 1 0 (xL.map (Value.int .i64))
def Sd (w:World):Prop:=w.rangeAt 2 0 (yL.map (Value.int .i64))
theorem JW (a b c:Nat):aA (aA a b) c=aA (aA a c) b:=by
 unfold aA
 rw [Nat.mod_mul_mod,Nat.mod_mul_mod,Nat.mul_right_comm]
theorem Rv (a b:Nat):aA a b=aA b a:=by unfold aA;rw [Nat.mul_comm]
theorem mul_two (a b:Nat):aJ (aA a b) (aA a b)=aA a (aJ b b):=by
 unfold aJ aA
 rw [← Nat.add_mod,Nat.mul_mod_mod,Nat.mul_add]
theorem DI (ps qs:List Int) (P Q:Pt) (w:World) (hp:lZ ps P) (hq:lZ qs Q) (hT:vG w) :
  Calls Tryd.prog 70 #[.agg (arr .i64 ps), .agg (arr .i64 qs)] w fun e w'=>∃ zs,e = .returned (.agg (arr .i64 zs))∧lZ zs (gX P Q)∧Below w.heap.size w w':=by
 have HmW:=Lib.hid hp.len
 obtain ⟨mx,my,mz,mt,hme,hmx,tQ,hmz,hmt⟩:=hp
 have Hmx:=Lib.hid hmx
 have HmxL:=Lib.hid hmx.1
 have Hmy:=Lib.hid tQ
 have HmyL:=Lib.hid tQ.1
 have Hmz:=Lib.hid hmz
 have HmzL:=Lib.hid hmz.1
 have Hmt:=Lib.hid hmt
 have HmtL:=Lib.hid hmt.1
 have hmP:=q8 .i64 mx my mz mt 16 hmx.1 tQ.1 hmz.1 hmt.1
 rw [← hme] at hmP
 have HmP:=Lib.hid hmP
 clear hmx tQ hmz hmt hme hmP
 have HoW:=Lib.hid hq.len
 obtain ⟨ox,oy,oz,ot,hoe,hox,hoy,hoz,hot⟩:=hq
 have Hox:=Lib.hid hox
 have HoxL:=Lib.hid hox.1
 have Hoy:=Lib.hid hoy
 have HoyL:=Lib.hid hoy.1
 have Hoz:=Lib.hid hoz
 have HozL:=Lib.hid hoz.1
 have Hot:=Lib.hid hot
 have HotL:=Lib.hid hot.1
 have hoP:=q8 .i64 ox oy oz ot 16 hox.1 hoy.1 hoz.1 hot.1
 rw [← hoe] at hoP
 have HoP:=Lib.hid hoP
 clear hox hoy hoz hot hoe hoP
 obtain ⟨dl,hdl⟩:∃ x,x=dL:=⟨_,rfl⟩
 have HD:Hid (El dl dd):=Lib.hid (by rw [hdl];exact dL_el)
 have x9:=Lib.hid HD.out.1
 unfold vG at hT
 rw [← hdl] at hT
 have HT:=Lib.hid hT
 obtain ⟨ze,iH⟩:∃ zs:List Int,zs=List.replicate 16 0:=⟨_,rfl⟩
 have dM:Hid (∀ w,(zeroValue 98).run Tryd.prog w = .ok (.agg (arr .i64 ze)) w):=Lib.hid (by intro w;rw [iH];exact gF w)
 have dB:Hid (ze.length=16):=Lib.hid (by rw [iH];rfl)
 obtain ⟨zp,xS⟩:∃ zs:List Int,zs=List.replicate 64 0:=⟨_,rfl⟩
 have xD:Hid (∀ w,(zeroValue 100).run Tryd.prog w = .ok (.agg (arr .i64 zp)) w):=Lib.hid (by intro w;rw [xS];exact mW w)
 have jq:Hid (zp.length=64):=Lib.hid (by rw [xS];rfl)
 have bN:=Lib.hid (bM.three w (arr .i64 ps) (arr .i64 qs) (arr .i64 zp) 100 100 100)
 clear iH xS hdl hT
 go_enter Tryd.func70, Tryd.ntmps70
 go_upto_region 1 with (first|((with_reducible refine aS 4 ?_);refine aj rfl 100 rfl _ (xD.out _) ?_))
 (try simp only [World.size_alloc,Act.put,sA,sZ,sS])
 generalize (((w.alloc (.cells (arr .i64 ps) 100)).alloc (.cells (arr .i64 qs) 100)).alloc (.cells (arr .i64 zp) 100))=wb at bN ⊢
 refine gK (T:=fun _=>False) (w:=w) (sy:=[Yp (w.heap.size) 16,Yr .i64 my,Yp (w.heap.size) 0,Yr .i64 mx,Ys .i64 (fun z=>El z (aX P.y P.x)),Yp (w.heap.size+1) 16,Yr .i64 oy,Yp (w.heap.size+1) 0,Yr .i64 ox,Ys .i64 (fun z=>El z (aX Q.y Q.x)),Ys .i64 (fun z=>El z (aA (aX P.y P.x) (aX Q.y Q.x))),Yn (arr .i64 ze) 98, Y0]) (pt:=[(12,14,RZ .i64 (fun z=>El z (aA (aX P.y P.x) (aX Q.y Q.x))) 98)]) (by kernel_rfl) (by kernel_rfl) (by kernel_rfl) bN.out.holds (fun hW=>?sa1) (fun qa1 xa1 ua1 _ hH=>?ea1)
 case sa1 =>
  refine jw hW ?_
  refine vI hW ?_ 0 16 (arr .i64 ps) 100 lV HmyL.out (HmP.out.2.1)
  refine jw hW ?_
  refine vI hW ?_ 0 0 (arr .i64 ps) 100 lV HmxL.out (HmP.out.1)
  refine vJ hW ?_ (k := .i64) (R:=(fun z=>El z (aX P.y P.x))) (.h (.agg (arr .i64 my))) (.h (.agg (arr .i64 mx))) (fun _ _ _ hA hB=>by cases hA;cases hB;exact je _ _ _ _ _ Hmy.out Hmx.out)
  refine jw hW ?_
  refine vI hW ?_ 1 16 (arr .i64 qs) 100 lV HoyL.out (HoP.out.2.1)
  refine jw hW ?_
  refine vI hW ?_ 1 0 (arr .i64 qs) 100 lV HoxL.out (HoP.out.1)
  refine vJ hW ?_ (k := .i64) (R:=(fun z=>El z (aX Q.y Q.x))) (.h (.agg (arr .i64 oy))) (.h (.agg (arr .i64 ox))) (fun _ _ _ hA hB=>by cases hA;cases hB;exact je _ _ _ _ _ Hoy.out Hox.out)
  refine vJ hW ?_ (k := .i64) (R:=(fun z=>El z (aA (aX P.y P.x) (aX Q.y Q.x)))) (.s 4 .i64 (fun z=>El z (aX P.y P.x))) (.s 9 .i64 (fun z=>El z (aX Q.y Q.x))) (fun _ _ _ hA hB=>by obtain ⟨xa1_4,rfl,hz⟩:=hA;have Ra1_4:=Lib.hid hz;have HLa1_4:=Lib.hid (show xa1_4.length=_ from hz.1);obtain ⟨xa1_9,rfl,hz⟩:=hB;have Ra1_9:=Lib.hid hz;have HLa1_9:=Lib.hid (show xa1_9.length=_ from hz.1);exact bJ _ _ _ _ _ Ra1_4.out Ra1_9.out)
  refine SyA hW ?_ dM.out
  refine SySr hW ?_ (k := .i64) (R:=(fun z=>El z (aA (aX P.y P.x) (aX Q.y Q.x)))) (t := 98) (p:=Bp (arr .i64 ze) 98) 14 10 lV (fun z h=>h.1) (fun o h=>⟨_,h,asz dB.out⟩) (by kernel_rfl) (by kernel_rfl)
  exact SyN
 case ea1 =>
 obtain ⟨qP,hz,hH⟩:=hH.opn 14 (g:=(qa1 11)) (k := .i64) (R:=(fun z=>El z (aA (aX P.y P.x) (aX Q.y Q.x)))) (t := 98) (by kernel_rfl)
 have Pm:=Lib.hid hz
 have Pv:=Lib.hid (show qP.length=_ from hz.1)
 clear hz
 have HBa1:=Lib.hid (hH.blk [0,1,2,14] [(w.heap.size,arr .i64 ps, 100),(w.heap.size+1,arr .i64 qs, 100),(w.heap.size+1+1,arr .i64 zp, 100),((qa1 11),arr .i64 qP, 98)] (by decide) (by kernel_rfl))
 simp only [lay,Sy.at,BF,Yr,Yv,Yp,Yq,Yn,Y0,Ys,Act.put,sA,sZ,sS,Nat.reduceAdd]
 clear hH bN
 (try simp only [Exit.then])
 go_upto_region 2 with fail
 refine gK (T:=fun _=>False) (w:=w) (sy:=[Yp (w.heap.size) 16,Yr .i64 my,Yp (w.heap.size) 0,Yr .i64 mx,Ys .i64 (fun z=>El z (aJ P.y P.x)),Yp (w.heap.size+1) 16,Yr .i64 oy,Yp (w.heap.size+1) 0,Yr .i64 ox,Ys .i64 (fun z=>El z (aJ Q.y Q.x)),Ys .i64 (fun z=>El z (aA (aJ P.y P.x) (aJ Q.y Q.x))),Yn (arr .i64 ze) 98, Y0]) (pt:=[(12,15,RZ .i64 (fun z=>El z (aA (aJ P.y P.x) (aJ Q.y Q.x))) 98)]) (by kernel_rfl) (by kernel_rfl) (by kernel_rfl) HBa1.out.holds (fun hW=>?sa2) (fun qa2 xa2 ua2 _ hH=>?ea2)
 case sa2 =>
  refine jw hW ?_
  refine vI hW ?_ 0 16 (arr .i64 ps) 100 lV HmyL.out (HmP.out.2.1)
  refine jw hW ?_
  refine vI hW ?_ 0 0 (arr .i64 ps) 100 lV HmxL.out (HmP.out.1)
  refine vJ hW ?_ (k := .i64) (R:=(fun z=>El z (aJ P.y P.x))) (.h (.agg (arr .i64 my))) (.h (.agg (arr .i64 mx))) (fun _ _ _ hA hB=>by cases hA;cases hB;exact iR _ _ _ _ _ Hmy.out Hmx.out)
  refine jw hW ?_
  refine vI hW ?_ 1 16 (arr .i64 qs) 100 lV HoyL.out (HoP.out.2.1)
  refine jw hW ?_
  refine vI hW ?_ 1 0 (arr .i64 qs) 100 lV HoxL.out (HoP.out.1)
  refine vJ hW ?_ (k := .i64) (R:=(fun z=>El z (aJ Q.y Q.x))) (.h (.agg (arr .i64 oy))) (.h (.agg (arr .i64 ox))) (fun _ _ _ hA hB=>by cases hA;cases hB;exact iR _ _ _ _ _ Hoy.out Hox.out)
  refine vJ hW ?_ (k := .i64) (R:=(fun z=>El z (aA (aJ P.y P.x) (aJ Q.y Q.x)))) (.s 4 .i64 (fun z=>El z (aJ P.y P.x))) (.s 9 .i64 (fun z=>El z (aJ Q.y Q.x))) (fun _ _ _ hA hB=>by obtain ⟨xa2_4,rfl,hz⟩:=hA;have Ra2_4:=Lib.hid hz;have HLa2_4:=Lib.hid (show xa2_4.length=_ from hz.1);obtain ⟨xa2_9,rfl,hz⟩:=hB;have Ra2_9:=Lib.hid hz;have HLa2_9:=Lib.hid (show xa2_9.length=_ from hz.1);exact bJ _ _ _ _ _ Ra2_4.out Ra2_9.out)
  refine SyA hW ?_ dM.out
  refine SySr hW ?_ (k := .i64) (R:=(fun z=>El z (aA (aJ P.y P.x) (aJ Q.y Q.x)))) (t := 98) (p:=Bp (arr .i64 ze) 98) 15 10 lV (fun z h=>h.1) (fun o h=>⟨_,h,asz dB.out⟩) (by kernel_rfl) (by kernel_rfl)
  exact SyN
 case ea2 =>
 obtain ⟨uN,hz,hH⟩:=hH.opn 15 (g:=(qa2 11)) (k := .i64) (R:=(fun z=>El z (aA (aJ P.y P.x) (aJ Q.y Q.x)))) (t := 98) (by kernel_rfl)
 have Pk:=Lib.hid hz
 have Pq:=Lib.hid (show uN.length=_ from hz.1)
 clear hz
 have HBa2:=Lib.hid (hH.blk [0,1,2,3,15] [(w.heap.size,arr .i64 ps, 100),(w.heap.size+1,arr .i64 qs, 100),(w.heap.size+1+1,arr .i64 zp, 100),((qa1 11),arr .i64 qP, 98),((qa2 11),arr .i64 uN, 98)] (by decide) (by kernel_rfl))
 simp only [lay,Sy.at,BF,Yr,Yv,Yp,Yq,Yn,Y0,Ys,Act.put,sA,sZ,sS,Nat.reduceAdd]
 clear hH HBa1
 (try simp only [Exit.then])
 go_upto_region 3 with fail
 refine gK (T:=fun _=>False) (w:=w) (sy:=[Yp (w.heap.size) 48,Yr .i64 mt,Yp (w.heap.size+1) 48,Yr .i64 ot,Ys .i64 (fun z=>El z (aA P.t Q.t)),Yr .i64 dl,Yr .i64 dl,Ys .i64 (fun z=>El z (aJ dd dd)),Ys .i64 (fun z=>El z (aA (aA P.t Q.t) (aJ dd dd))),Yn (arr .i64 ze) 98, Y0]) (pt:=[(10,14,RZ .i64 (fun z=>El z (aA (aA P.t Q.t) (aJ dd dd))) 98)]) (by kernel_rfl) (by kernel_rfl) (by kernel_rfl) HBa2.out.holds (fun hW=>?sa3) (fun qa3 xa3 ua3 _ hH=>?ea3)
 case sa3 =>
  refine jw hW ?_
  refine vI hW ?_ 0 48 (arr .i64 ps) 100 lV HmtL.out (HmP.out.2.2.2)
  refine jw hW ?_
  refine vI hW ?_ 1 48 (arr .i64 qs) 100 lV HotL.out (HoP.out.2.2.2)
  refine vJ hW ?_ (k := .i64) (R:=(fun z=>El z (aA P.t Q.t))) (.h (.agg (arr .i64 mt))) (.h (.agg (arr .i64 ot))) (fun _ _ _ hA hB=>by cases hA;cases hB;exact bJ _ _ _ _ _ Hmt.out Hot.out)
  refine SyG hW ?_ (fun u b K k h=>by refine wp_load_mid 98 (.global 3) rfl 3 0 rfl (dl.map (Value.int .i64)) _ (bA HT.out (Kept.toBelow k (Nat.le_refl _) (fun _ e=>e.elim))) Tryd.underlying98 rfl (by rw [List.length_map];exact bI x9.out) h)
  refine SyG hW ?_ (fun u b K k h=>by refine wp_load_mid 98 (.global 3) rfl 3 0 rfl (dl.map (Value.int .i64)) _ (bA HT.out (Kept.toBelow k (Nat.le_refl _) (fun _ e=>e.elim))) Tryd.underlying98 rfl (by rw [List.length_map];exact bI x9.out) h)
  refine vJ hW ?_ (k := .i64) (R:=(fun z=>El z (aJ dd dd))) (.h (.agg (arr .i64 dl))) (.h (.agg (arr .i64 dl))) (fun _ _ _ hA hB=>by cases hA;cases hB;exact iR _ _ _ _ _ HD.out HD.out)
  refine vJ hW ?_ (k := .i64) (R:=(fun z=>El z (aA (aA P.t Q.t) (aJ dd dd)))) (.s 4 .i64 (fun z=>El z (aA P.t Q.t))) (.s 7 .i64 (fun z=>El z (aJ dd dd))) (fun _ _ _ hA hB=>by obtain ⟨xa3_4,rfl,hz⟩:=hA;have Ra3_4:=Lib.hid hz;have HLa3_4:=Lib.hid (show xa3_4.length=_ from hz.1);obtain ⟨xa3_7,rfl,hz⟩:=hB;have Ra3_7:=Lib.hid hz;have HLa3_7:=Lib.hid (show xa3_7.length=_ from hz.1);exact bJ _ _ _ _ _ Ra3_4.out Ra3_7.out)
  refine SyA hW ?_ dM.out
  refine SySr hW ?_ (k := .i64) (R:=(fun z=>El z (aA (aA P.t Q.t) (aJ dd dd)))) (t := 98) (p:=Bp (arr .i64 ze) 98) 14 8 lV (fun z h=>h.1) (fun o h=>⟨_,h,asz dB.out⟩) (by kernel_rfl) (by kernel_rfl)
  exact SyN
 case ea3 =>
 obtain ⟨yc,hz,hH⟩:=hH.opn 14 (g:=(qa3 9)) (k := .i64) (R:=(fun z=>El z (aA (aA P.t Q.t) (aJ dd dd)))) (t := 98) (by kernel_rfl)
 have Pj:=Lib.hid hz
 have Pp:=Lib.hid (show yc.length=_ from hz.1)
 clear hz
 have HBa3:=Lib.hid (hH.blk [0,1,2,3,4,14] [(w.heap.size,arr .i64 ps, 100),(w.heap.size+1,arr .i64 qs, 100),(w.heap.size+1+1,arr .i64 zp, 100),((qa1 11),arr .i64 qP, 98),((qa2 11),arr .i64 uN, 98),((qa3 9),arr .i64 yc, 98)] (by decide) (by kernel_rfl))
 simp only [lay,Sy.at,BF,Yr,Yv,Yp,Yq,Yn,Y0,Ys,Act.put,sA,sZ,sS,Nat.reduceAdd]
 clear hH HBa2
 (try simp only [Exit.then])
 go_upto_region 5 with (first|((with_reducible refine aS 45 ?_);refine ak rfl 98 _ rfl (w.heap.size) (32) _ 100 (0,0) _ (HBa3.out.get 0 rfl) rfl .i64 mz (HmP.out.2.2.1) Tryd.underlying98 rfl (bI HmzL.out) ?_)|((with_reducible refine aS 47 ?_);refine ak rfl 98 _ rfl (w.heap.size+1) (32) _ 100 (0,0) _ (HBa3.out.get 1 rfl) rfl .i64 oz (HoP.out.2.2.1) Tryd.underlying98 rfl (bI HozL.out) ?_)|((with_reducible show Calls _ 68 #[.agg _, .agg _] _ _);go_at_call 68; refine (bJ _ _ _ _ _ Hmz.out Hoz.out).mono ?_;rintro e w101 ⟨z101,rfl,h101,hb101⟩;have HZ101:=Lib.hid h101;have IJ:=Lib.hid h101.1;clear h101;have HB101:=Lib.hid (HBa3.out.kept hb101);clear hb101)|((with_reducible refine aS 8 ?_);refine aj rfl 98 rfl _ (dM.out _) ?_;have qO:=Lib.hid (HB101.out.alloc (arr .i64 ze) 98);generalize w101.heap.size=Lx at qO ⊢; generalize w101.alloc (.cells (arr .i64 ze) 98)=TF at qO ⊢; clear HB101)|((with_reducible refine aT 8 (x:=(Operand.tmp 48)) ?_);refine ah rfl 98 _ _ rfl (Lx) _ _ 98 (qO.out.get 6 rfl) rfl rfl (ay _ _ IJ.out dB.out) (cO IJ.out) (av _ _) ?_;intro TD qG hk103 hz103;have uK:=Lib.hid (qO.out.put 6 rfl hk103 qG);clear qG hk103 hz103;clear qO))
 go_upto_region 6 with (first|((with_reducible refine aS 49 ?_);refine ak rfl 98 _ rfl (Lx) (0) _ 98 (0,0) _ (uK.out.get 6 rfl) rfl .i64 z101 (au _ _) Tryd.underlying98 rfl (bI IJ.out) ?_)|((with_reducible refine aS 50 ?_);refine ak rfl 98 _ rfl (Lx) (0) _ 98 (0,0) _ (uK.out.get 6 rfl) rfl .i64 z101 (au _ _) Tryd.underlying98 rfl (bI IJ.out) ?_)|((with_reducible show Calls _ 77 #[.agg _, .agg _] _ _);go_at_call 77; refine (iR _ _ _ _ _ HZ101.out HZ101.out).mono ?_;rintro e w104 ⟨z104,rfl,h104,Ho⟩;have HZ104:=Lib.hid h104;have PU:=Lib.hid h104.1;clear h104;have qN:=Lib.hid (uK.out.kept Ho);clear Ho;clear uK)|((with_reducible refine aT 8 (x:=(Operand.tmp 51)) ?_);refine ah rfl 98 _ _ rfl (Lx) _ _ 98 (qN.out.get 6 rfl) rfl rfl (ay _ _ PU.out IJ.out) (cO PU.out) (av _ _) ?_;intro w105 Hl CG Vv;have Dr:=Lib.hid (qN.out.put 6 rfl CG Hl);clear Hl CG Vv;clear qN))
 go_upto_region 7 with (first|((with_reducible refine aS 52 ?_);refine ak rfl 98 _ rfl ((qa2 11)) (0) _ 98 (0,0) _ (Dr.out.get 4 rfl) rfl .i64 uN (au _ _) Tryd.underlying98 rfl (bI Pq.out) ?_)|((with_reducible refine aS 53 ?_);refine ak rfl 98 _ rfl ((qa1 11)) (0) _ 98 (0,0) _ (Dr.out.get 3 rfl) rfl .i64 qP (au _ _) Tryd.underlying98 rfl (bI Pv.out) ?_)|((with_reducible show Calls _ 78 #[.agg _, .agg _] _ _);go_at_call 78; refine (je _ _ _ _ _ Pk.out Pm.out).mono ?_;rintro e w106 ⟨Jm,rfl,h106,hb106⟩;have HZ106:=Lib.hid h106;have PS:=Lib.hid h106.1;clear h106;have Dq:=Lib.hid (Dr.out.kept hb106);clear hb106;clear Dr)|((with_reducible refine aS 9 ?_);refine aj rfl 98 rfl _ (dM.out _) ?_;have qM:=Lib.hid (Dq.out.alloc (arr .i64 ze) 98);generalize w106.heap.size=g107 at qM ⊢; generalize w106.alloc (.cells (arr .i64 ze) 98)=w107 at qM ⊢; clear Dq)|((with_reducible refine aT 9 (x:=(Operand.tmp 54)) ?_);refine ah rfl 98 _ _ rfl (g107) _ _ 98 (qM.out.get 7 rfl) rfl rfl (ay _ _ PS.out dB.out) (cO PS.out) (av _ _) ?_;intro w108 tY CF Vu;have wV:=Lib.hid (qM.out.put 7 rfl CF tY);clear tY CF Vu;clear qM))
 go_upto_region 8 with (first|((with_reducible refine aS 55 ?_);refine ak rfl 98 _ rfl (Lx) (0) _ 98 (0,0) _ (wV.out.get 6 rfl) rfl .i64 z104 (au _ _) Tryd.underlying98 rfl (bI PU.out) ?_)|((with_reducible refine aS 56 ?_);refine ak rfl 98 _ rfl ((qa3 9)) (0) _ 98 (0,0) _ (wV.out.get 5 rfl) rfl .i64 yc (au _ _) Tryd.underlying98 rfl (bI Pp.out) ?_)|((with_reducible show Calls _ 78 #[.agg _, .agg _] _ _);go_at_call 78; refine (je _ _ _ _ _ HZ104.out Pj.out).mono ?_;rintro e w109 ⟨z109,rfl,h109,hb109⟩;have HZ109:=Lib.hid h109;have PO:=Lib.hid h109.1;clear h109;have Dp:=Lib.hid (wV.out.kept hb109);clear hb109;clear wV)|((with_reducible refine aS 10 ?_);refine aj rfl 98 rfl _ (dM.out _) ?_;have AO:=Lib.hid (Dp.out.alloc (arr .i64 ze) 98);generalize w109.heap.size=g110 at AO ⊢; generalize w109.alloc (.cells (arr .i64 ze) 98)=w110 at AO ⊢; clear Dp)|((with_reducible refine aT 10 (x:=(Operand.tmp 57)) ?_);refine ah rfl 98 _ _ rfl (g110) _ _ 98 (AO.out.get 8 rfl) rfl rfl (ay _ _ PO.out dB.out) (cO PO.out) (av _ _) ?_;intro w111 CK hk111 hz111;have AL:=Lib.hid (AO.out.put 8 rfl hk111 CK);clear CK hk111 hz111;clear AO))
 go_upto_region 9 with (first|((with_reducible refine aS 58 ?_);refine ak rfl 98 _ rfl (Lx) (0) _ 98 (0,0) _ (AL.out.get 6 rfl) rfl .i64 z104 (au _ _) Tryd.underlying98 rfl (bI PU.out) ?_)|((with_reducible refine aS 59 ?_);refine ak rfl 98 _ rfl ((qa3 9)) (0) _ 98 (0,0) _ (AL.out.get 5 rfl) rfl .i64 yc (au _ _) Tryd.underlying98 rfl (bI Pp.out) ?_)|((with_reducible show Calls _ 77 #[.agg _, .agg _] _ _);go_at_call 77; refine (iR _ _ _ _ _ HZ104.out Pj.out).mono ?_;rintro e w112 ⟨Jl,rfl,h112,Hg⟩;have HZ112:=Lib.hid h112;have PN:=Lib.hid h112.1;clear h112;have Qb:=Lib.hid (AL.out.kept Hg);clear Hg;clear AL)|((with_reducible refine aS 11 ?_);refine aj rfl 98 rfl _ (dM.out _) ?_;have IZ:=Lib.hid (Qb.out.alloc (arr .i64 ze) 98);generalize w112.heap.size=g113 at IZ ⊢; generalize w112.alloc (.cells (arr .i64 ze) 98)=w113 at IZ ⊢; clear Qb)|((with_reducible refine aT 11 (x:=(Operand.tmp 60)) ?_);refine ah rfl 98 _ _ rfl (g113) _ _ 98 (IZ.out.get 9 rfl) rfl rfl (ay _ _ PN.out dB.out) (cO PN.out) (av _ _) ?_;intro w114 hb114 hk114 hz114;have Qa:=Lib.hid (IZ.out.put 9 rfl hk114 hb114);clear hb114 hk114 hz114;clear IZ))
 go_upto_region 10 with (first|((with_reducible refine aS 61 ?_);refine ak rfl 98 _ rfl ((qa2 11)) (0) _ 98 (0,0) _ (Qa.out.get 4 rfl) rfl .i64 uN (au _ _) Tryd.underlying98 rfl (bI Pq.out) ?_)|((with_reducible refine aS 62 ?_);refine ak rfl 98 _ rfl ((qa1 11)) (0) _ 98 (0,0) _ (Qa.out.get 3 rfl) rfl .i64 qP (au _ _) Tryd.underlying98 rfl (bI Pv.out) ?_)|((with_reducible show Calls _ 77 #[.agg _, .agg _] _ _);go_at_call 77; refine (iR _ _ _ _ _ Pk.out Pm.out).mono ?_;rintro e w115 ⟨Jk,rfl,h115,hb115⟩;have HZ115:=Lib.hid h115;have PL:=Lib.hid h115.1;clear h115;have HB115:=Lib.hid (Qa.out.kept hb115);clear hb115;clear Qa)|((with_reducible refine aS 12 ?_);refine aj rfl 98 rfl _ (dM.out _) ?_;have AJ:=Lib.hid (HB115.out.alloc (arr .i64 ze) 98);generalize w115.heap.size=g116 at AJ ⊢; generalize w115.alloc (.cells (arr .i64 ze) 98)=w116 at AJ ⊢; clear HB115)|((with_reducible refine aT 12 (x:=(Operand.tmp 63)) ?_);refine ah rfl 98 _ _ rfl (g116) _ _ 98 (AJ.out.get 10 rfl) rfl rfl (ay _ _ PL.out dB.out) (cO PL.out) (av _ _) ?_;intro w117 CJ hk117 hz117;have P9:=Lib.hid (AJ.out.put 10 rfl hk117 CJ);clear CJ hk117 hz117;clear AJ))
 refine gK (T:=fun _=>False) (w:=w) (sy:=[Yr .i64 Jm,Yr .i64 z109,Ys .i64 (fun z=>El z (aA (aX (aA (aJ P.y P.x) (aJ Q.y Q.x)) (aA (aX P.y P.x) (aX Q.y Q.x))) (aX (aJ (aA P.z Q.z) (aA P.z Q.z)) (aA (aA P.t Q.t) (aJ dd dd))))),Yr .i64 Jk,Yr .i64 Jl,Ys .i64 (fun z=>El z (aA (aJ (aA (aJ P.y P.x) (aJ Q.y Q.x)) (aA (aX P.y P.x) (aX Q.y Q.x))) (aJ (aJ (aA P.z Q.z) (aA P.z Q.z)) (aA (aA P.t Q.t) (aJ dd dd))))),Yr .i64 z109,Yr .i64 Jl,Ys .i64 (fun z=>El z (aA (aX (aJ (aA P.z Q.z) (aA P.z Q.z)) (aA (aA P.t Q.t) (aJ dd dd))) (aJ (aJ (aA P.z Q.z) (aA P.z Q.z)) (aA (aA P.t Q.t) (aJ dd dd))))),Yr .i64 Jm,Yr .i64 Jk,Ys .i64 (fun z=>El z (aA (aX (aA (aJ P.y P.x) (aJ Q.y Q.x)) (aA (aX P.y P.x) (aX Q.y Q.x))) (aJ (aA (aJ P.y P.x) (aJ Q.y Q.x)) (aA (aX P.y P.x) (aX Q.y Q.x))))),Ys .i64 (fun z=>lZ z (⟨(aA (aX (aA (aJ P.y P.x) (aJ Q.y Q.x)) (aA (aX P.y P.x) (aX Q.y Q.x))) (aX (aJ (aA P.z Q.z) (aA P.z Q.z)) (aA (aA P.t Q.t) (aJ dd dd)))),(aA (aJ (aA (aJ P.y P.x) (aJ Q.y Q.x)) (aA (aX P.y P.x) (aX Q.y Q.x))) (aJ (aJ (aA P.z Q.z) (aA P.z Q.z)) (aA (aA P.t Q.t) (aJ dd dd)))),(aA (aX (aJ (aA P.z Q.z) (aA P.z Q.z)) (aA (aA P.t Q.t) (aJ dd dd))) (aJ (aJ (aA P.z Q.z) (aA P.z Q.z)) (aA (aA P.t Q.t) (aJ dd dd)))),(aA (aX (aA (aJ P.y P.x) (aJ Q.y Q.x)) (aA (aX P.y P.x) (aX Q.y Q.x))) (aJ (aA (aJ P.y P.x) (aJ Q.y Q.x)) (aA (aX P.y P.x) (aX Q.y Q.x))))⟩:Pt)),Y0]) (pt:=[(13,2,RZ .i64 (fun z=>lZ z (⟨(aA (aX (aA (aJ P.y P.x) (aJ Q.y Q.x)) (aA (aX P.y P.x) (aX Q.y Q.x))) (aX (aJ (aA P.z Q.z) (aA P.z Q.z)) (aA (aA P.t Q.t) (aJ dd dd)))),(aA (aJ (aA (aJ P.y P.x) (aJ Q.y Q.x)) (aA (aX P.y P.x) (aX Q.y Q.x))) (aJ (aJ (aA P.z Q.z) (aA P.z Q.z)) (aA (aA P.t Q.t) (aJ dd dd)))),(aA (aX (aJ (aA P.z Q.z) (aA P.z Q.z)) (aA (aA P.t Q.t) (aJ dd dd))) (aJ (aJ (aA P.z Q.z) (aA P.z Q.z)) (aA (aA P.t Q.t) (aJ dd dd)))),(aA (aX (aA (aJ P.y P.x) (aJ Q.y Q.x)) (aA (aX P.y P.x) (aX Q.y Q.x))) (aJ (aA (aJ P.y P.x) (aJ Q.y Q.x)) (aA (aX P.y P.x) (aX Q.y Q.x))))⟩:Pt)) 100)]) (by kernel_rfl) (by kernel_rfl) (by kernel_rfl) P9.out.holds (fun hW=>?sa10) (fun qa10 xa10 ua10 _ hH=>?ea10)
 case sa10 =>
  refine vI hW ?_ 7 0 (arr .i64 Jm) 98 lV PS.out (au _ _)
  refine vI hW ?_ 8 0 (arr .i64 z109) 98 lV PO.out (au _ _)
  refine vJ hW ?_ (k := .i64) (R:=(fun z=>El z (aA (aX (aA (aJ P.y P.x) (aJ Q.y Q.x)) (aA (aX P.y P.x) (aX Q.y Q.x))) (aX (aJ (aA P.z Q.z) (aA P.z Q.z)) (aA (aA P.t Q.t) (aJ dd dd)))))) (.h (.agg (arr .i64 Jm))) (.h (.agg (arr .i64 z109))) (fun _ _ _ hA hB=>by cases hA;cases hB;exact bJ _ _ _ _ _ HZ106.out HZ109.out)
  refine vI hW ?_ 10 0 (arr .i64 Jk) 98 lV PL.out (au _ _)
  refine vI hW ?_ 9 0 (arr .i64 Jl) 98 lV PN.out (au _ _)
  refine vJ hW ?_ (k := .i64) (R:=(fun z=>El z (aA (aJ (aA (aJ P.y P.x) (aJ Q.y Q.x)) (aA (aX P.y P.x) (aX Q.y Q.x))) (aJ (aJ (aA P.z Q.z) (aA P.z Q.z)) (aA (aA P.t Q.t) (aJ dd dd)))))) (.h (.agg (arr .i64 Jk))) (.h (.agg (arr .i64 Jl))) (fun _ _ _ hA hB=>by cases hA;cases hB;exact bJ _ _ _ _ _ HZ115.out HZ112.out)
  refine vI hW ?_ 8 0 (arr .i64 z109) 98 lV PO.out (au _ _)
  refine vI hW ?_ 9 0 (arr .i64 Jl) 98 lV PN.out (au _ _)
  refine vJ hW ?_ (k := .i64) (R:=(fun z=>El z (aA (aX (aJ (aA P.z Q.z) (aA P.z Q.z)) (aA (aA P.t Q.t) (aJ dd dd))) (aJ (aJ (aA P.z Q.z) (aA P.z Q.z)) (aA (aA P.t Q.t) (aJ dd dd)))))) (.h (.agg (arr .i64 z109))) (.h (.agg (arr .i64 Jl))) (fun _ _ _ hA hB=>by cases hA;cases hB;exact bJ _ _ _ _ _ HZ109.out HZ112.out)
  refine vI hW ?_ 7 0 (arr .i64 Jm) 98 lV PS.out (au _ _)
  refine vI hW ?_ 10 0 (arr .i64 Jk) 98 lV PL.out (au _ _)
  refine vJ hW ?_ (k := .i64) (R:=(fun z=>El z (aA (aX (aA (aJ P.y P.x) (aJ Q.y Q.x)) (aA (aX P.y P.x) (aX Q.y Q.x))) (aJ (aA (aJ P.y P.x) (aJ Q.y Q.x)) (aA (aX P.y P.x) (aX Q.y Q.x)))))) (.h (.agg (arr .i64 Jm))) (.h (.agg (arr .i64 Jk))) (fun _ _ _ hA hB=>by cases hA;cases hB;exact bJ _ _ _ _ _ HZ106.out HZ115.out)
  refine SyB4 hW ?_ (k := .i64) (R:=(fun z=>lZ z (⟨(aA (aX (aA (aJ P.y P.x) (aJ Q.y Q.x)) (aA (aX P.y P.x) (aX Q.y Q.x))) (aX (aJ (aA P.z Q.z) (aA P.z Q.z)) (aA (aA P.t Q.t) (aJ dd dd)))),(aA (aJ (aA (aJ P.y P.x) (aJ Q.y Q.x)) (aA (aX P.y P.x) (aX Q.y Q.x))) (aJ (aJ (aA P.z Q.z) (aA P.z Q.z)) (aA (aA P.t Q.t) (aJ dd dd)))),(aA (aX (aJ (aA P.z Q.z) (aA P.z Q.z)) (aA (aA P.t Q.t) (aJ dd dd))) (aJ (aJ (aA P.z Q.z) (aA P.z Q.z)) (aA (aA P.t Q.t) (aJ dd dd)))),(aA (aX (aA (aJ P.y P.x) (aJ Q.y Q.x)) (aA (aX P.y P.x) (aX Q.y Q.x))) (aJ (aA (aJ P.y P.x) (aJ Q.y Q.x)) (aA (aX P.y P.x) (aX Q.y Q.x))))⟩:Pt))) (.s 2 .i64 (fun z=>El z (aA (aX (aA (aJ P.y P.x) (aJ Q.y Q.x)) (aA (aX P.y P.x) (aX Q.y Q.x))) (aX (aJ (aA P.z Q.z) (aA P.z Q.z)) (aA (aA P.t Q.t) (aJ dd dd)))))) (.s 5 .i64 (fun z=>El z (aA (aJ (aA (aJ P.y P.x) (aJ Q.y Q.x)) (aA (aX P.y P.x) (aX Q.y Q.x))) (aJ (aJ (aA P.z Q.z) (aA P.z Q.z)) (aA (aA P.t Q.t) (aJ dd dd)))))) (.s 8 .i64 (fun z=>El z (aA (aX (aJ (aA P.z Q.z) (aA P.z Q.z)) (aA (aA P.t Q.t) (aJ dd dd))) (aJ (aJ (aA P.z Q.z) (aA P.z Q.z)) (aA (aA P.t Q.t) (aJ dd dd)))))) (.s 11 .i64 (fun z=>El z (aA (aX (aA (aJ P.y P.x) (aJ Q.y Q.x)) (aA (aX P.y P.x) (aX Q.y Q.x))) (aJ (aA (aJ P.y P.x) (aJ Q.y Q.x)) (aA (aX P.y P.x) (aX Q.y Q.x)))))) (fun _ _ _ _ hA hB hC hD=>by obtain ⟨xa10_2,rfl,hz⟩:=hA;have Ra10_2:=Lib.hid hz;have HLa10_2:=Lib.hid (show xa10_2.length=_ from hz.1);obtain ⟨xa10_5,rfl,hz⟩:=hB;have Ra10_5:=Lib.hid hz;have HLa10_5:=Lib.hid (show xa10_5.length=_ from hz.1);obtain ⟨xa10_8,rfl,hz⟩:=hC;have Ra10_8:=Lib.hid hz;have HLa10_8:=Lib.hid (show xa10_8.length=_ from hz.1);obtain ⟨xa10_11,rfl,hz⟩:=hD;have Ra10_11:=Lib.hid hz;have HLa10_11:=Lib.hid (show xa10_11.length=_ from hz.1);exact ⟨_,pR _ _ _ _ HLa10_2.out HLa10_5.out HLa10_8.out HLa10_11.out,⟨_,_,_,_,rfl,Ra10_2.out,Ra10_5.out,Ra10_8.out,Ra10_11.out⟩⟩)
  refine SySr hW ?_ (k := .i64) (R:=(fun z=>lZ z (⟨(aA (aX (aA (aJ P.y P.x) (aJ Q.y Q.x)) (aA (aX P.y P.x) (aX Q.y Q.x))) (aX (aJ (aA P.z Q.z) (aA P.z Q.z)) (aA (aA P.t Q.t) (aJ dd dd)))),(aA (aJ (aA (aJ P.y P.x) (aJ Q.y Q.x)) (aA (aX P.y P.x) (aX Q.y Q.x))) (aJ (aJ (aA P.z Q.z) (aA P.z Q.z)) (aA (aA P.t Q.t) (aJ dd dd)))),(aA (aX (aJ (aA P.z Q.z) (aA P.z Q.z)) (aA (aA P.t Q.t) (aJ dd dd))) (aJ (aJ (aA P.z Q.z) (aA P.z Q.z)) (aA (aA P.t Q.t) (aJ dd dd)))),(aA (aX (aA (aJ P.y P.x) (aJ Q.y Q.x)) (aA (aX P.y P.x) (aX Q.y Q.x))) (aJ (aA (aJ P.y P.x) (aJ Q.y Q.x)) (aA (aX P.y P.x) (aX Q.y Q.x))))⟩:Pt))) (t := 100) (p:=Bp (arr .i64 zp) 100) 2 12 rowQ (fun z h=>h.len) (fun o h=>⟨_,h,asz jq.out⟩) (by kernel_rfl) (by kernel_rfl)
  exact SyN
 case ea10 =>
 obtain ⟨Ti,hz,hH⟩:=hH.opn 2 (g:=w.heap.size+1+1) (k := .i64) (R:=(fun z=>lZ z (⟨(aA (aX (aA (aJ P.y P.x) (aJ Q.y Q.x)) (aA (aX P.y P.x) (aX Q.y Q.x))) (aX (aJ (aA P.z Q.z) (aA P.z Q.z)) (aA (aA P.t Q.t) (aJ dd dd)))),(aA (aJ (aA (aJ P.y P.x) (aJ Q.y Q.x)) (aA (aX P.y P.x) (aX Q.y Q.x))) (aJ (aJ (aA P.z Q.z) (aA P.z Q.z)) (aA (aA P.t Q.t) (aJ dd dd)))),(aA (aX (aJ (aA P.z Q.z) (aA P.z Q.z)) (aA (aA P.t Q.t) (aJ dd dd))) (aJ (aJ (aA P.z Q.z) (aA P.z Q.z)) (aA (aA P.t Q.t) (aJ dd dd)))),(aA (aX (aA (aJ P.y P.x) (aJ Q.y Q.x)) (aA (aX P.y P.x) (aX Q.y Q.x))) (aJ (aA (aJ P.y P.x) (aJ Q.y Q.x)) (aA (aX P.y P.x) (aX Q.y Q.x))))⟩:Pt))) (t := 100) (by kernel_rfl)
 have RYa10_2:=Lib.hid hz
 have HYa10_2:=Lib.hid (show Ti.length=_ from hz.len)
 clear hz
 have HBa10:=Lib.hid (hH.blk [0,1,2,3,4,5,6,7,8,9,10] [(w.heap.size,arr .i64 ps, 100),(w.heap.size+1,arr .i64 qs, 100),(w.heap.size+1+1,arr .i64 Ti, 100),((qa1 11),arr .i64 qP, 98),((qa2 11),arr .i64 uN, 98),((qa3 9),arr .i64 yc, 98),(Lx,arr .i64 z104, 98),(g107,arr .i64 Jm, 98),(g110,arr .i64 z109, 98),(g113,arr .i64 Jl, 98),(g116,arr .i64 Jk, 98)] (by decide) (by kernel_rfl))
 simp only [lay,Sy.at,BF,Yr,Yv,Yp,Yq,Yn,Y0,Ys,Act.put,sA,sZ,sS,Nat.reduceAdd]
 clear hH P9
 (try simp only [Exit.then])
 go_wp2_with fail
 refine bodyPost_ret (results_cell_row rfl _ _ (w.heap.size+1+1) 100 _ (0,0) _ rfl (HBa10.out.get 2 rfl) Tryd.underlying100 rfl (lD HYa10_2.out)) rfl ?_
 refine ⟨_,rfl,?_,HBa10.out.below⟩
 obtain ⟨x,y,z,t,e,h1,h2,h3,h4⟩:=RYa10_2.out
 refine ⟨x,y,z,t,e,?_,?_,?_,h4⟩
 ·have:=h1;rw [JW,mul_two] at this;exact this
 ·have:=h2
  rw [JW,mul_two,Rv (aJ (aA (aJ P.y P.x) (aJ Q.y Q.x)) (aA (aX P.y P.x) (aX Q.y Q.x)))] at this
  exact this
 ·have:=h3;rw [JW,mul_two] at this;exact this
end Go.Proofs.YthdgbgleklkaiaaDoor.Rd
