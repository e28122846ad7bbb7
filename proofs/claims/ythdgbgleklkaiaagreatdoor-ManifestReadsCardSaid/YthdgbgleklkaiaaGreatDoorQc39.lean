/- image.Seal, image.Open and the document's. slices.Chunk of bytes, 64 a. Condition: as each theorem says. -/
import Derived.BigRegionIn
import Derived.LoopIn
import Derived.LoopNIn
import Derived.RangeFuncBound
import Derived.RangeFuncCalls
import Derived.RangeFuncLeaves
import Derived.RangeFuncNested
import Derived.Shelf.Abstract
import Derived.Shelf.RegionOpen
import Derived.TacticsInMore
import Derived.Test.YthdgbgleklkaiaaGreatDoorQc34
open Go.Lib renaming hid→abC
open Nat renaming le_refl→abD,le_trans→abE
open List renaming length_map→abF
set_option linter.unusedSimpArgs false
set_option linter.unusedVariables false
set_option maxRecDepth 100000
set_option maxHeartbeats 16000000
namespace Go.Proofs.YthdgbgleklkaiaaGreatDoor.Im
open Go.RowKit Lm Po Ch Ae
def jJ (v i:Int) (n:Nat):Bool:=Le v i && decide (n=64)
def ow (key:List Int) (v i:Int) (p:List Int):List Int:=if jJ v i p.length then lN key (iK i) p (jE v) else []
def oC (v i:Int) (p:List Int):Int:=if jJ v i p.length then 0 else 1
theorem zV {v i:Int}:Le v i=true↔(0≤v∧v≤2147483647∧0≤i∧i < 32):=by simp [Le]
theorem mayB_no {v i:Int} (h:¬ (0≤v∧v≤2147483647∧0≤i∧i < 32)):Le v i=false:=by simp only [Le];exact decide_eq_false h
theorem nN (key xs:List Int) (v i:Int) (sp:Option Addr) (n cp:Nat) (w:World) (hk:key.length=32) (bk:bytes key) (hs:Src w sp n xs) (kc:n≤cp) :
  Calls Tryz.prog 95 #[.agg (arr .u8 key), .int .i64 v, .int .i64 i, .slice sp n cp] w fun e w'=>∃ u,e = .returned (.tuple #[u, .int .i64 (oC v i xs)])∧aU w' w.heap.size u (ow key v i xs)∧Below w.heap.size w w':=by
 have hl:=hs.len
 have hbw:=(Below.refl _ w).alloc (abD _) (.cells (arr .u8 key) 25)
 have HW:=abC hbw
 by_cases h0:(0≤v∧v≤2147483647∧0≤i∧i < 32)
 ·by_cases h1:n=64
  ·subst h1
   have HM:=abC (fun w=>(show l9 v=true by simp only [l9];exact decide_eq_true ⟨h0.1,h0.2.1⟩)▸gX v w)
   have hE:jJ v i xs.length=true:=by simp [jJ,zV.2 h0,hl]
   unfold oC ow
   rw [hE,if_pos rfl,if_pos rfl]
   clear hE
   have hnl:=wT i
   have hnb:=CS i
   have hbl:=iy v
   have hbb:=kT v
   have MN:=fun w=>KO i w ⟨by omega,by omega⟩
   have MP:=fun w=>gq v w ⟨by omega,by omega⟩
   have MS:=fun w s c h1 h2=>Dj key (iK i) xs (jE v) sp s 64 8 cp c w hk hnl bk hnb h1 h2 hbb (by decide) (by decide)
   obtain ⟨nn,hnn⟩:∃ x,x=iK i:=⟨_,rfl⟩
   obtain ⟨b8,CK⟩:∃ x,x=jE v:=⟨_,rfl⟩
   rw [← hnn] at hnl MN MS ⊢
   rw [← CK] at hbl MP MS ⊢
   obtain ⟨tx,htx⟩:∃ x,x=lN key nn xs b8:=⟨_,rfl⟩
   rw [← htx] at MS ⊢
   have hr0:=aH w (.cells (arr .u8 key) 25)
   have d9:=abC hr0
   have HX:=abC (hs.below hbw)
   have lH:=abC hk
   have qM:=abC hbl
   have HMN:=abC MN
   have HMP:=abC MP
   have Gs:=abC MS
   obtain ⟨h00,h01,h02,h03⟩:=h0
   have h03':i≤31:=by omega
   have q0:decide (i < 0)=false:=decide_eq_false (by omega)
   have q1:decide (31 < i)=false:=decide_eq_false (by omega)
   clear hr0 hs hk bk hnl hnb hbl hbb MN MP MS hnn CK htx hl hbw
   go_enter Tryz.func95, Tryz.ntmps95
   go_upto_region 3 with (first|((with_reducible show Calls _ _ _ _ _);go_at_call 87; refine (HM.out _).mono ?_;rintro e w1 ⟨rfl,rfl⟩))
   generalize w.alloc (.cells (arr .u8 key) 25)=wq at d9 HX HW ⊢
   have hdr:Below wq.heap.size wq wq.drew:=⟨rfl,rfl,rfl,abD _,fun _ _=>rfl⟩
   have HX:=abC (HX.out.below hdr)
   clear hdr
   have HB0:=abC (show Below wq.heap.size wq wq.drew from ⟨rfl,rfl,rfl,abD _,fun _ _=>rfl⟩)
   refine wp_region_held_drew (S:=(fun w'=>Go.RowKit.Below wq.heap.size wq w')) (by kernel_rfl) (HB0.out) (fun hHeld=>?_)
   obtain ⟨wv,hwv⟩:∃ x,x=wq.drew:=⟨_,rfl⟩
   rw [← hwv] at HB0 hHeld HX ⊢
   clear hwv
   refine' wpAnyH_take (i:=0) (oi:=(⟨some 26,_,_,_,_,none⟩:Oper)) (v:=_) rfl (by kernel_rfl) (by kernel_rfl) (by kernel_rfl) (fun _ _ _ h=>h) (yieldsIf_load_mid (by rfl) _ _ rfl _ _ rfl (key.map (Value.int .u8)) _ ?hS2001 Tryz.underlying25 rfl (by rw [abF,lH.out];exact qZ)) (by assumption) ?rest2001
   case hS2001=>(intro w hSw;exact aO (Below.blk hSw d9.out (aV d9.out)) 0 _ (by rw [abF];exact aj _ _))
   (try simp only [Act.put,sA,sZ,sS])
   refine pT 1 ⟨some 27,_,_,_,_,none⟩ (?v2002) ?_
   (try simp only [Act.put,sA,sZ,sS])
   refine pT 3 ⟨some 29,_,_,_,_,none⟩ (?v2003) ?_
   (try simp only [Act.put,sA,sZ,sS])
   refine pT 4 ⟨some 30,_,_,_,_,none⟩ (?v2004) ?_
   (try simp only [Act.put,sA,sZ,sS])
   refine pR 2 ⟨some 28,_,_,_,_,none⟩ (fun K hK=>?_)
   go_simp
   go_at_call 88
   refine (HMN.out _).mono ?_
   rintro e w2005 ⟨rfl,AB⟩
   have O3:=abC (HB0.out.trans (AB.mono HB0.out.size))
   have HX:=abC (HX.out.below AB)
   (try (have HA:=abC (HA.out.below AB)))
   (try (have HS2:=abC (HS2.out.below AB)))
   clear AB
   (try dsimp only)
   refine hK.out _ _ (O3.out) (fun hHeld=>?_)
   clear hK K
   (try simp only [Act.put,sA,sZ,sS])
   refine pR 5 ⟨some 31,_,_,_,_,none⟩ (fun K hK=>?_)
   go_simp
   go_at_call 54
   refine (HMP.out _).mono ?_
   rintro e w2006 ⟨v2,rfl,ho2,Mw⟩
   have G5:=abC (O3.out.trans (Mw.mono O3.out.size))
   obtain ⟨s2,c2,hv2,hc2, -, hs2, -⟩:=ho2.form
   rw [qM.out] at hv2 hs2 hc2
   subst hv2
   have HS2:=abC hs2
   have Rl:=abC hc2
   clear ho2 hs2 hc2
   have HX:=abC (HX.out.below Mw)
   clear Mw
   (try dsimp only)
   refine hK.out _ _ (G5.out) (fun hHeld=>?_)
   clear hK K
   (try simp only [Act.put,sA,sZ,sS])
   refine pR 6 ⟨some 32,_,_,_,_,none⟩ (fun K hK=>?_)
   go_simp
   go_at_call 98
   refine (Gs.out _ _ _ HX.out HS2.out).mono ?_
   rintro e w2007 ⟨v3,rfl,ho3,YF⟩
   have HB2007:=abC (G5.out.trans (YF.mono G5.out.size))
   have HO3:=abC (ho3.mono (B':=w.heap.size) (abE HW.out.size G5.out.size))
   clear ho3
   clear YF
   (try dsimp only)
   refine hK.out _ _ (HB2007.out) (fun hHeld=>?_)
   clear hK K
   (try simp only [Act.put,sA,sZ,sS])
   refine pT 7 ⟨some 8,_,_,_,_,none⟩ (?v2008) ?_
   (try simp only [Act.put,sA,sZ,sS])
   refine pT 8 ⟨some 9,_,_,_,_,none⟩ (?v2009) ?_
   (try simp only [Act.put,sA,sZ,sS])
   refine wpAnyH_done (by kernel_rfl) ?_ _
   (try simp only [Exit.then])
   go_wp2_with fail
   go_ret2
   exact ⟨_,rfl,HO3.out,HW.out.trans (HB2007.out.mono HW.out.size)⟩
  ·have hn:((n:Int) == 64)=false:=by rw [beq_eq_false_iff_ne];omega
   have hy:Le v i=true:=zV.2 h0
   have HM:=abC (fun w=>(show l9 v=true by simp only [l9];exact decide_eq_true ⟨h0.1,h0.2.1⟩)▸gX v w)
   obtain ⟨h00,h01,h02,h03⟩:=h0
   have h03':i≤31:=by omega
   have q0:decide (i < 0)=false:=decide_eq_false (by omega)
   have q1:decide (31 < i)=false:=decide_eq_false (by omega)
   have hE:oC v i xs=1:=by simp [oC,jJ,hy,hl,h1]
   have hX:ow key v i xs=[]:=by simp [ow,jJ,hy,hl,h1]
   rw [hE,hX]
   clear hE hX hk bk
   go_enter Tryz.func95, Tryz.ntmps95
   go_wp2_with (first|((with_reducible show Calls _ _ _ _ _);go_at_call 87; refine (HM.out _).mono ?_;rintro e w1 ⟨rfl,rfl⟩))
   go_ret2
   exact ⟨_,rfl,aU.nil _ _,HW.out⟩
 ·have hy:Le v i=false:=mayB_no h0
  by_cases h2:(0≤v∧v≤2147483647)
  ·have HM:=abC (fun w=>(show l9 v=true by simp only [l9];exact decide_eq_true h2)▸gX v w)
   by_cases h3:i < 0
   ·skip
    have hE:oC v i xs=1:=by simp [oC,jJ,hy]
    have hX:ow key v i xs=[]:=by simp [ow,jJ,hy]
    rw [hE,hX]
    clear hE hX hk bk
    go_enter Tryz.func95, Tryz.ntmps95
    go_wp2_with (first|((with_reducible show Calls _ _ _ _ _);go_at_call 87; refine (HM.out _).mono ?_;rintro e w1 ⟨rfl,rfl⟩))
    go_ret2
    exact ⟨_,rfl,aU.nil _ _,HW.out⟩
   ·have h3':0≤i:=by omega
    have h4:31 < i:=by omega
    have q0:decide (i < 0)=false:=decide_eq_false h3
    clear h0
    have hE:oC v i xs=1:=by simp [oC,jJ,hy]
    have hX:ow key v i xs=[]:=by simp [ow,jJ,hy]
    rw [hE,hX]
    clear hE hX hk bk
    go_enter Tryz.func95, Tryz.ntmps95
    go_wp2_with (first|((with_reducible show Calls _ _ _ _ _);go_at_call 87; refine (HM.out _).mono ?_;rintro e w1 ⟨rfl,rfl⟩))
    go_ret2
    exact ⟨_,rfl,aU.nil _ _,HW.out⟩
  ·have HM:=abC (fun w=>(show l9 v=false by simp only [l9];exact decide_eq_false h2)▸gX v w)
   have hE:oC v i xs=1:=by simp [oC,jJ,hy]
   have hX:ow key v i xs=[]:=by simp [ow,jJ,hy]
   rw [hE,hX]
   clear hE hX hk bk
   go_enter Tryz.func95, Tryz.ntmps95
   go_wp2_with (first|((with_reducible show Calls _ _ _ _ _);go_at_call 87; refine (HM.out _).mono ?_;rintro e w1 ⟨rfl,rfl⟩))
   go_ret2
   exact ⟨_,rfl,aU.nil _ _,HW.out⟩
end Go.Proofs.YthdgbgleklkaiaaGreatDoor.Im
namespace Go.Proofs.YthdgbgleklkaiaaGreatDoor
open Go.RowKit Go.Shelf
attribute [local go_sem] Oper.semAt_some
end Go.Proofs.YthdgbgleklkaiaaGreatDoor
namespace Go.Proofs.YthdgbgleklkaiaaGreatDoor
open Go.RowKit Go.Shelf
attribute [local go_sem] Oper.semAt_some
theorem dV.cells {w:World} {B:Nat} {v:Value} {L:List (List Int)} (h:dV w B v L) (j:Nat) (o:Obj) (hj:v.ownBlock=some j) (ho:w.heap[j]? = some o):o.isCells=true:=by
 obtain ⟨vs,⟨h1,h2⟩,h3,h4⟩:=h
 rcases h2 with ⟨rfl,_⟩|⟨g,cap,cur,rfl,hb,hg,hr⟩
 ·cases hj
 ·have:g=j:=by simpa [Value.ownBlock] using hj
  subst this
  rw [hg] at ho
  cases ho
  rfl
theorem dV.mono {w:World} {B B':Nat} {v:Value} {L:List (List Int)} (h:dV w B v L) (hB:B'≤B):dV w B' v L:=by
 obtain ⟨vs,⟨h1,h2⟩,h3,h4⟩:=h
 refine ⟨vs,⟨h1,?_⟩,h3,fun i hi=>(h4 i hi).mono hB⟩
 rcases h2 with h0|⟨g,cap,cur,rfl,hb,hr⟩
 ·exact .inl h0
 ·exact .inr ⟨g,cap,cur,rfl,by omega,hr⟩
theorem dV.store {w:World} {B b:Nat} {v u x:Value} {L:List (List Int)} (h:dV w B v L) (hb:w.heap[b]? = some (.cells #[x] 44 (0,0))):dV (w.setCell ⟨b,0,none⟩ u) B v L:=by
 have far:∀ {g:Nat} {c:Array Value} {t:TypeId},t ≠ 44 → w.heap[g]? = some (.cells c t (0,0))→(w.setCell ⟨b,0,none⟩ u).heap[g]? = some (.cells c t (0,0)):=by
  intro g c t ht hg
  refine ay hg _ (fun e=>?_)
  rw [e,hb] at hg
  injection hg with hg
  injection hg with _ e2
  exact ht e2.symm
 obtain ⟨vs,⟨h1,h2⟩,h3,h4⟩:=h
 refine ⟨vs,⟨h1,?_⟩,h3,fun i hi=>?_⟩
 ·rcases h2 with h0|⟨g,cap,cur,rfl,hB,hg,hrr⟩
  ·exact .inl h0
  ·exact .inr ⟨g,cap,cur,rfl,hB,far (by decide) hg,hrr⟩
 ·obtain ⟨g,cap,sp,e,hB,hg,hc,hm⟩:=h4 i hi
  exact ⟨g,cap,sp,e,hB,far (by decide) hg,hc,hm⟩
end Go.Proofs.YthdgbgleklkaiaaGreatDoor
namespace Go.Proofs.YthdgbgleklkaiaaGreatDoor
open Go.RowKit Go.Shelf
attribute [local go_sem] Oper.semAt_some
end Go.Proofs.YthdgbgleklkaiaaGreatDoor
namespace Go.Proofs.YthdgbgleklkaiaaGreatDoor
open Go.RowKit
theorem dV.at {w:World} {B:Nat} {v:Value} {L:List (List Int)} (h:dV w B v L):∃ sa c,v = .slice sa L.length c∧L.length≤c∧∀ i,i < L.length→∃ a g c' sp,sa=some a∧w.cell? (a.add i)=some (.slice (some ⟨g,0,none⟩) (L.getD i []).length c')∧w.heap[g]? = some (.cells (jV (L.getD i []) sp) 5 (0,0))∧c'=(L.getD i []).length+sp.length∧kg w B (.slice (some ⟨g,0,none⟩) (L.getD i []).length c') (L.getD i []):=by
 obtain ⟨vs,⟨h1,h2⟩,h3,h4⟩:=h
 rcases h2 with ⟨rfl,h0⟩|⟨g,cap,cur,rfl,hB,hg,hn,hm,hs,ht⟩
 ·have:L=[]:=List.eq_nil_of_length_eq_zero h0
  subst this
  exact ⟨none,0,rfl,by simp,fun i hi=>absurd hi (by simp)⟩
 ·refine ⟨_,cap,rfl,hn,fun i hi=>?_⟩
  have ho:=h4 i hi
  obtain ⟨g',c',sp',e,hB',hg',hc',hm'⟩:=ho
  refine ⟨_,g',c',sp',rfl,?_,hg',hc',⟨g',c',sp',rfl,hB',hg',hc',hm'⟩⟩
  have e1:(⟨g,0,none⟩:Addr).add i=⟨g,i,none⟩:=by unfold Addr.add;split <;> simp_all
  have hl:=congrArg (fun l=>l[i]?) ht
  simp only [Nat.mul_one,List.getElem?_take,hi,if_true] at hl
  rw [e1,aF hg]
  have hv:vs[i]? = some (vs.getD i undef):=by simp [List.getD,show i < vs.length by omega]
  rw [hv,e] at hl
  simpa using hl
theorem kY (B B':Nat) (v v':Value) (L:List (List Int)) (w:World) (h1:dV w B v L) (h2:dV w B' v' L) (hl:L.length≤1099511627776) :
  Calls Tryz.prog 32 #[v,v'] w fun e w'=>e = .returned (.bool true)∧∃ k,w'=w.drewN k:=by
 obtain ⟨sa,c,rfl,hc,ha⟩:=h1.at
 obtain ⟨sb,d,rfl,hd,hb⟩:=h2.at
 have HA:=abC ha
 have HB:=abC hb
 obtain ⟨n,hn⟩:∃ n,n=L.length:=⟨_,rfl⟩
 rw [← hn] at HA HB hc hd hl ⊢
 clear ha hb h1 h2 hn
 go_enter Tryz.func32, Tryz.ntmps32
 go_wp2_with fail
 go_loopw [5] (fun i wr=>∃ j:Nat,j≤n∧i = .int .i64 j∧∃ k,wr=w.drewN k) (fun i _=>n - (intOf i).toNat)
 case atStart=>exact ⟨0,Nat.zero_le _,rfl,0,rfl⟩
 case round =>
  obtain ⟨j,hj,rfl,k,rfl⟩:=hrel
  by_cases hlt:j < n
  ·obtain ⟨a,g,c1,sp,rfl,x0, -, -, o1⟩:=HA.out j hlt
   obtain ⟨b,g',c2,sp',rfl,y0, -, -, o2⟩:=HB.out j hlt
   have q1:∀ n,(convert 22 9 (.slice (some ⟨g,0,none⟩) (L.getD j []).length c1)).run Tryz.prog (w.drewN n) = .ok (.string (strOfNums (L.getD j []))) (w.drewN n):=fun n=>(o1.drewN n).str
   have q2:∀ n,(convert 22 9 (.slice (some ⟨g',0,none⟩) (L.getD j []).length c2)).run Tryz.prog (w.drewN n) = .ok (.string (strOfNums (L.getD j []))) (w.drewN n):=fun n=>(o2.drewN n).str
   clear o1 o2
   generalize strOfNums (L.getD j [])=S at q1 q2
   generalize (L.getD j []).length=m at q1 q2 x0 y0
   go_wp2_with fail
   go_quiet (fail)
   go_wp2_with fail
   go_roundw
   case rel=>exact ⟨j+1,by omega,by go_num,_,rfl⟩
   case measure=>simp [intOf];omega
  ·go_wp2_with fail
   (try simp only [Exit.inBlock,Exit.then])
   go_ret
   exact ⟨rfl,_,rfl⟩
end Go.Proofs.YthdgbgleklkaiaaGreatDoor
namespace Go.Proofs.YthdgbgleklkaiaaGreatDoor
open Go.RowKit
theorem ZI (xs:List Int):(Nq xs).length=gU xs.length:=by simp [Nq]
theorem cutL_at (xs:List Int) (i:Nat) (h:i < gU xs.length):(Nq xs).getD i []=chunk xs i:=by simp [Nq,List.getD,h]
end Go.Proofs.YthdgbgleklkaiaaGreatDoor
namespace Go.Proofs.YthdgbgleklkaiaaGreatDoor.Im
open Go.RowKit Lm Po Ch Ae
structure B1 (w wr:World) (c0:Array Value) (t0:TypeId):Prop where
 b0:wr.heap[w.heap.size]? = some (.cells c0 t0 (0,0))
 below:Below w.heap.size w wr
theorem B1.after {w wr w':World} {c0:Array Value} {t0:TypeId} (h:B1 w wr c0 t0) (k:Below wr.heap.size wr w'):B1 w w' c0 t0:=⟨Below.blk k h.b0 (aV h.b0),h.below.trans (k.mono h.below.size)⟩
end Go.Proofs.YthdgbgleklkaiaaGreatDoor.Im
namespace Go.Proofs.YthdgbgleklkaiaaGreatDoor.Im
open Go.RowKit Lm Po Ch Ae
theorem Dh {key:List Int} {v i:Int} {p:List Int} (h:0≤v∧v≤2147483647∧0≤i∧i < 32) (hl:p.length=64):oC v i p=0∧ow key v i p=lN key (iK i) p (jE v):=by
 simp [oC,ow,jJ,zV.2 h,hl]
end Go.Proofs.YthdgbgleklkaiaaGreatDoor.Im
namespace Go.Proofs.YthdgbgleklkaiaaGreatDoor.Im
open Go.RowKit Lm Po Ch Ae
def mh (key:List Int) (v:Int) (xs:List Int) (i:Nat):List Int:=lN key (iK (i:Int)) (chunk xs i) (jE v)
def o7 (key:List Int) (v:Int) (xs:List Int) (k:Nat):List (List Int):=(List.range k).map (mh key v xs)
theorem KH (key:List Int) (v:Int) (xs:List Int) (k:Nat):o7 key v xs (k+1)=o7 key v xs k ++ [mh key v xs k]:=by simp [o7,List.range_succ]
theorem uT (key:List Int) (v:Int) (xs:List Int) (k:Nat):(o7 key v xs k).length=k:=by simp [o7]
theorem zD (key:List Int) (v:Int) (xs:List Int) (k:Nat):(mh key v xs k).length=80:=by rw [mh,IC,nu]
theorem FB {n:Nat} (h:n≤2048):gU n≤32:=by unfold gU;split <;> omega
theorem owns_of {w:World} {B:Nat} {sa:Option Addr} {n c:Nat} {xs:List Int} (h:aU w B (.slice sa n c) xs) (hn:0 < n):kg w B (.slice sa n c) xs :=
 kg.KY h (by intro e;cases e;omega)
theorem xI (key l:List Int) (v:Int) (j:Nat) (sp:Option Addr) (n cp:Nat) (w:World) (hv:0≤v∧v≤2147483647∧j < 32) (hk:key.length=32) (bk:bytes key) (hs:Src w sp n l) (kc:n≤cp) (hl:n=64) :
  Calls Tryz.prog 95 #[.agg (arr .u8 key), .int .i64 v, .int .i64 (j:Int), .slice sp n cp] w fun e w'=>∃ u,e = .returned (.tuple #[u, .int .i64 0])∧aU w' w.heap.size u (lN key (iK (j:Int)) l (jE v))∧Below w.heap.size w w':=by
 have h:=nN key l v (j:Int) sp n cp w hk bk hs kc
 rw [(Dh (key:=key) (v:=v) (i:=(j:Int)) (p:=l) (by omega) (by rw [hs.len];exact hl)).1,(Dh (key:=key) (v:=v) (i:=(j:Int)) (p:=l) (by omega) (by rw [hs.len];exact hl)).2] at h
 exact h
theorem Sv (key xs:List Int) (v:Int) (sp:Option Addr) (n cp:Nat) (w:World) (hk:key.length=32) (bk:bytes key) (hs:Src w sp n xs) (kc:n≤cp) (hn:n≤2048) (hv:0≤v∧v≤2147483647) :
  Calls Tryz.prog 56 #[.agg (arr .u8 key), .int .i64 v, .slice sp n cp] w fun e w'=>∃ u,e = .returned (.tuple #[u, .int .i64 0])∧dV w' w.heap.size u (o7 key v xs (gU n))∧Below w.heap.size w w':=by
 have hbw:=(Below.refl _ w).alloc (abD _) (.cells (arr .u8 key) 25)
 have HW:=abC hbw
 have hl:=hs.len
 have hcl:=ZI xs
 rw [hl] at hcl
 have hcat:=cutL_at xs
 rw [hl] at hcat
 have h32:=FB hn
 have h1:0 < gU n:=by unfold gU;split <;> omega
 have MS:=fun (j:Nat) (hj:j < 32) (l:List Int) (hll:l.length=64) sp cp w (hs:Src w sp 64 l) kc=>xI key l v j sp 64 cp w ⟨hv.1,hv.2,hj⟩ hk bk hs kc rfl
 have hr0:=aH w (.cells (arr .u8 key) 25)
 have d9:=abC hr0
 have HX:=abC (hs.below hbw)
 have lH:=abC hk
 have Gs:=abC MS
 have HCA:=abC hcat
 have mF:=abC hcl
 have HL:=abC hl
 obtain ⟨m,hm⟩:∃ m,m=gU n:=⟨_,rfl⟩
 rw [← hm] at HCA mF h32 h1 ⊢
 clear hbw hr0 hs hk bk MS hcat hcl hl
 obtain ⟨L,hL⟩:∃ x,x=Nq xs:=⟨_,rfl⟩
 rw [← hL] at HCA mF
 have HLE:=abC hL
 clear hL
 go_enter Tryz.func56, Tryz.ntmps56
 go_wp2_with (first|((with_reducible show Calls _ _ #[.slice _ _ _] _ _);go_at_call 35; refine (Wv _ _ _ xs _ HX.out kc hn).mono ?_;rintro e w1 ⟨v1,rfl,ho1,hb1⟩;rw [← HLE.out] at ho1;obtain ⟨sa,c,hv1, -, hat⟩:=ho1.at;rw [mF.out] at hv1 hat;subst hv1;have HAT:=abC hat;have HB1:=abC (HW.out.trans (hb1.mono HW.out.size));have qJ:=abC (Below.blk hb1 d9.out (aV d9.out));clear ho1 hat hb1))
 go_loopw [10,11] (fun u i wr=>∃ j:Nat,j≤m∧i = .int .i64 j∧dV wr w1.heap.size u (o7 key v xs j)∧Below w1.heap.size w1 wr) (fun _ i _=>m - (intOf i).toNat)
 case atStart=>exact ⟨0,Nat.zero_le _,rfl,dV.nil _ _,Below.refl _ _⟩
 case round =>
  obtain ⟨j,hj,rfl,hO,hB⟩:=hrel
  have hOf:=hO.form
  rw [uT] at hOf
  by_cases hlt:j < m
  ·obtain ⟨ad,g,ci,sq,rfl,x1,hg,hci, -⟩:=HAT.out j hlt
   have x0:=eD hB x1
   have hsi:=Px (Below.blk hB hg (aV hg))
   have hch:=HCA.out j hlt
   rw [hch,nu] at x0 hci hsi
   have h64:=nu xs j
   have hsl:=zD key v xs j
   have hsx:=KH key v xs j
   have MS:=fun sp cp w hs kc=>Gs.out j (by omega) (chunk xs j) h64 sp cp w hs kc
   have hse:lN key (iK (j:Int)) (chunk xs j) (jE v)=mh key v xs j:=rfl
   rw [hse] at MS
   generalize chunk xs j=ck at *
   generalize mh key v xs j=sk at *
   have hln:=uT key v xs j
   generalize o7 key v xs j=S0 at *
   have Em:=abC MS
   have HSI:=abC hsi
   have HCI:=abC (show 64≤ci by omega)
   have HSL:=abC hsl
   have UH:=abC hsx
   have HO:=abC hO
   have oK:=abC hB
   have JZ:=abC hln
   have HKR:=abC (Below.blk hB qJ.out (aV qJ.out))
   obtain ⟨va,vc,hv1, -⟩:=hOf
   subst hv1
   clear x1 hg hci hsi hch h64 hsl hsx MS hse hO hB hln
   go_upto_region 8 with fail
   have HB0:=abC (show Below wr.heap.size wr wr.drew from ⟨rfl,rfl,rfl,abD _,fun _ _=>rfl⟩)
   refine wp_region_held_drew (S:=(fun w'=>Go.RowKit.Below wr.heap.size wr w')) (by kernel_rfl) (HB0.out) (fun hHeld=>?_)
   refine' wpAnyH_take (i:=0) (oi:=(⟨some 29,_,_,_,_,none⟩:Oper)) (v:=_) rfl (by kernel_rfl) (by kernel_rfl) (by kernel_rfl) (fun _ _ _ h=>h) (yieldsIf_load_mid (by rfl) _ _ rfl _ _ rfl (key.map (Value.int .u8)) _ ?hS1001 Tryz.underlying25 rfl (by rw [abF,lH.out];exact qZ)) (by assumption) ?rest1001
   case hS1001=>(intro w hSw;exact aO (Below.blk hSw HKR.out (aV HKR.out)) 0 _ (by rw [abF];exact aj _ _))
   (try simp only [Act.put,sA,sZ,sS])
   refine pT 1 ⟨some 30,_,_,_,_,none⟩ (?v1002) ?_
   (try simp only [Act.put,sA,sZ,sS])
   refine pT 2 ⟨some 31,_,_,_,_,none⟩ (?v1003) ?_
   (try simp only [Act.put,sA,sZ,sS])
   refine pT 3 ⟨some 32,_,_,_,_,none⟩ (?v1004) ?_
   (try simp only [Act.put,sA,sZ,sS])
   refine pT 4 ⟨some 33,_,_,_,_,none⟩ (?v1005) ?_
   (try simp only [Act.put,sA,sZ,sS])
   refine pT 5 ⟨some 34,_,_,_,_,none⟩ (?v1006) ?_
   (try simp only [Act.put,sA,sZ,sS])
   refine wpAnyH_take (i:=6) (oi:=(⟨some 35,_,_,_,_,none⟩:Oper)) (v:=(.slice (some ⟨g,0,none⟩) 64 ci)) rfl (by kernel_rfl) (by kernel_rfl) (by kernel_rfl) (fun _ _ _ h=>h) (Or.inl ⟨by rfl,?hy1007⟩) (by assumption) ?rest1007
   case hy1007=>(intro w hSw;(try dsimp only at hSw);have hx:=eD hSw x0;go_simp;try (with_reducible rfl))
   (try simp only [Act.put,sA,sZ,sS])
   refine pR 7 ⟨some 36,_,_,_,_,none⟩ (fun K hK=>?_)
   go_simp
   go_at_call 95
   refine (Em.out _ _ _ (HSI.out.below hHeld) HCI.out).mono ?_
   rintro e w1008 ⟨v5,rfl,ho5,Y2⟩
   have Cg:=abC (HB0.out.trans (Y2.mono HB0.out.size))
   obtain ⟨s5,c5,hv5, -⟩:=ho5.form
   rw [HSL.out] at hv5
   subst hv5
   have UO:=abC ((owns_of ho5 (by decide)).mono (B':=wr.heap.size) hHeld.size)
   clear ho5
   clear Y2
   (try dsimp only)
   refine hK.out _ _ (Cg.out) (fun hHeld=>?_)
   clear hK K
   (try simp only [Act.put,sA,sZ,sS])
   refine pT 8 ⟨some 28,_,_,_,_,none⟩ (?v1009) ?_
   (try simp only [Act.put,sA,sZ,sS])
   refine pT 9 ⟨some 37,_,_,_,_,none⟩ (?v1010) ?_
   (try simp only [Act.put,sA,sZ,sS])
   refine pT 10 ⟨some 38,_,_,_,_,none⟩ (?v1011) ?_
   (try simp only [Act.put,sA,sZ,sS])
   refine pT 11 ⟨some 12,_,_,_,_,none⟩ (?v1012) ?_
   (try simp only [Act.put,sA,sZ,sS])
   refine pT 12 ⟨some 13,_,_,_,_,none⟩ (?v1013) ?_
   (try simp only [Act.put,sA,sZ,sS])
   refine wpAnyH_done (by kernel_rfl) ?_ _
   have gy:=Cg
   (try simp only [Exit.then])
   go_wp2_with (first|((with_reducible refine aS 45 ?_);refine lM rfl (.tmp 42) (.tmp 44) rfl w1.heap.size _ _ S0 sk rfl rfl (HO.out.below gy.out) (UO.out.mono oK.out.size) (by rw [JZ.out];omega) (abE oK.out.size gy.out.size) ?_;intro v6 w6 xM yH;have Gr:=abC xM;have Cn:=abC yH;clear xM yH))
   go_roundw
   case rel=>exact ⟨j+1,by omega,by go_num,by rw [UH.out];exact Gr.out,((oK.out.trans (gy.out.mono oK.out.size)).alloc (abE oK.out.size gy.out.size) _).grown Cn.out (abE oK.out.size (abE gy.out.size (by simp))) (fun j e=>(dV.lt HO.out j e).1)⟩
   case measure=>simp [intOf];omega
  ·obtain rfl:j=m:=by omega
   have HO:=abC hO
   have oK:=abC hB
   clear hO hB hOf
   go_wp2_with fail
   go_ret2
   exact ⟨_,rfl,HO.out.mono HB1.out.size,HB1.out.trans (oK.out.mono HB1.out.size)⟩
end Go.Proofs.YthdgbgleklkaiaaGreatDoor.Im
