/- portcullisref16.Cut: slices.Chunk of bytes, 64 at a time: image.Cut: image.Cut: portcullislaw18: portcullislaw18.alive and ImageCuts: portcullislaw18: portcullislaw18: image.Make a. Condition: as each theorem says. -/
import Derived.BigRegionIn
import Derived.LoopIn
import Derived.LoopNIn
import Derived.OwnWalkIn
import Derived.RangeFuncBound
import Derived.RangeFuncCalls
import Derived.RangeFuncLeaves
import Derived.RangeFuncNested
import Derived.Shelf.Abstract
import Derived.Shelf.RegionOpen
import Derived.TacticsInMore
import Derived.WalkKit
import Derived.Test.YthdgbgleklkaiaaDoorQa05
import Derived.Test.YthdgbgleklkaiaaDoorQa19
import Derived.Test.YthdgbgleklkaiaaDoorQa38
set_option linter.unusedSimpArgs false
set_option linter.unusedVariables false
set_option maxRecDepth 100000
set_option maxHeartbeats 16000000
namespace Go.Proofs.YthdgbgleklkaiaaDoor
open Go.RowKit
def chunk (xs:List Int) (k:Nat):List Int:=(xs.drop (64 * k)).take 64 ++ zeros (64 - (xs.length - 64 * k))
def gT (n:Nat):Nat:=if n=0 then 1 else (n+63) / 64
def LQ (xs:List Int):List (List Int):=(List.range (gT xs.length)).map (chunk xs)
def BG (xs:List Int) (k:Nat):List (List Int):=(List.range k).map (chunk xs)
theorem vB (xs:List Int) (k:Nat):BG xs (k+1)=BG xs k ++ [chunk xs k]:=by simp [BG,List.range_succ]
theorem uj (xs:List Int) (k:Nat):(BG xs k).length=k:=by simp [BG]
theorem mO (xs:List Int) (k:Nat):(chunk xs k).length=64:=by simp [chunk,zeros];omega
theorem add_add (a:Addr) (i j:Nat):(a.add i).add j=a.add (i+j):=by
 obtain ⟨b,o,s⟩:=a
 unfold Addr.add
 by_cases hi:i=0
 ·subst hi;simp
 ·by_cases hj:j=0
  ·subst hj;simp
  ·simp [hi,hj,Nat.add_assoc]
theorem EI (xs:List Int) (k:Nat) :
  (splice ((zeros 64).map (Value.int .u8) ++ []) 0 (((xs.drop (64 * k)).take 64).map (Value.int .u8))).toArray=jK (chunk xs k) []:=by
 unfold splice jK chunk zeros
 simp only [List.append_nil,List.take_zero,List.nil_append,Nat.zero_add,List.length_map,List.map_append,List.map_replicate,List.drop_replicate,List.length_take,List.length_drop]
 congr 2
 congr 1
 omega
theorem RS {w:World} {ad:Addr} {n:Nat} {xs:List Int} (h:Src w (some ad) n xs) (k:Nat) :
  ∀ j v,(((xs.drop (64 * k)).take 64).map (Value.int .u8))[j]? = some v→w.cell? ((ad.add (64 * k)).add j)=some v:=by
 intro j v hj
 rw [add_add]
 refine jf h ad rfl (64 * k+j) v ?_
 simp only [List.getElem?_map,List.getElem?_take,List.getElem?_drop] at hj ⊢
 split at hj
 ·exact hj
 ·cases hj
theorem Ux (sa:Option Addr) (n c:Nat) (xs:List Int) (w:World) (hs:Src w sa n xs) (hc:n≤c) (hn:n≤2048) :
  Calls Tryd.prog 43 #[.slice sa n c] w fun e w'=>∃ v,e = .returned (.tuple #[v, .int .i64 0])∧dS w' w.heap.size v (LQ xs)∧Below w.heap.size w w':=by
 have hxl:=hs.len
 have hmk:∀ w:World,(Instr.makeSlice 24 (.int .i64 64) (.int .i64 64)).run Tryd.prog w = .ok (.slice (some ⟨w.heap.size,0,none⟩) 64 64) (w.alloc (.cells (jK (zeros 64) []) 5)):=mk8 64 (by omega)
 have HS:=Lib.hid hs
 have iG:=Lib.hid hxl
 clear hs hxl
 go_enter Tryd.func43, Tryd.ntmps43
 go_wp2_with fail
 go_loopw [4,5] (fun v i wr=>∃ k:Nat,k≤gT n∧i = .int .i64 (64 * (k:Int))∧dS wr w.heap.size v (BG xs k)∧Below w.heap.size w wr) (fun _ i _=>4096 - (intOf i).toNat)
 case atStart=>exact ⟨0,Nat.zero_le _,rfl,dS.nil _ _,Below.refl _ _⟩
 case round =>
  obtain ⟨k,hk,rfl,hO,hB⟩:=hrel
  obtain ⟨va,vc,hv, -⟩:=hO.form
  rw [uj] at hv
  subst hv
  have hOk:=hO
  by_cases hlt:64 * k < n
  ·obtain ⟨ad,rfl⟩:∃ ad,sa=some ad:=by
    obtain ⟨a,e,_⟩:=HS.out.cell 0 (by omega)
    exact ⟨a,e⟩
   have hkn:k < gT n:=by unfold gT;rw [if_neg (by omega)];omega
   have hs1:=(HS.out.below hB).below ((Below.refl _ wr).alloc (Nat.le_refl _) (.cells (jK (zeros 64) []) 5))
   obtain ⟨cs,hcs⟩:∃ cs,cs=((xs.drop (64 * k)).take 64).map (Value.int .u8):=⟨_,rfl⟩
   have hcl:cs.length=Nat.min (n - 64 * k) 64:=by
    show _=min (n - 64 * k) 64
    rw [hcs,← iG.out];simp;omega
   have hpos:0 < cs.length→some (⟨wr.heap.size,0,none⟩:Addr)=some ⟨wr.heap.size,0,none⟩∧∃ ad',some (ad.add (64 * k))=some ad'∧∀ j v,cs[j]? = some v→(wr.alloc (.cells (jK (zeros 64) []) 5)).cell? (ad'.add j)=some v :=
    fun _=>⟨rfl,_,rfl,fun j v hj=>RS hs1 k j v (by rw [← hcs];exact hj)⟩
   have hb0:(wr.alloc (.cells (jK (zeros 64) []) 5)).heap[wr.heap.size]? = some (.cells ((zeros 64).map (Value.int .u8) ++ []).toArray 5 (0,0)):=aL _ _
   have hbel:=(Below.refl wr.heap.size wr).alloc (Nat.le_refl _) (.cells (jK (zeros 64) []) 5)
   have hfit:0+cs.length≤((zeros 64).map (Value.int .u8) ++ []).length:=by rw [hcl];show 0+min (n - 64 * k) 64≤_;simp [zeros];omega
   have hone:∀ v∈cs,v.oneCell'=true:=by rw [hcs];exact mF _ _
   have hch:=EI xs k
   rw [← hcs] at hch
   have mV:=Lib.hid hcl
   have HPOS:=Lib.hid hpos
   have HB0:=Lib.hid hb0
   have mh:=Lib.hid hbel
   have HFIT:=Lib.hid hfit
   have HONE:=Lib.hid hone
   have HCH:=Lib.hid hch
   have Z8:=Lib.hid hOk
   have oD:=Lib.hid hB
   clear hs1 hcs hcl hpos hb0 hbel hfit hone hch hOk hO hB
   go_wp2_with (first|((with_reducible refine aS 25 ?_);refine wpList_copy_splice rfl _ _ 24 24 rfl 5 Tryd.underlying24 sU _ _ _ _ _ _ rfl rfl wr.heap.size 0 _ 5 HB0.out cs mV.out HPOS.out HFIT.out HONE.out wr.heap.size wr mh.out (Nat.le_refl _) ?_;intro w5 hb5 hbl5;have gu:=hb5;have HBL5:=Lib.hid hbl5;clear hb5 hbl5)|((with_reducible refine aS 29 ?_);refine lG rfl (.tmp 26) (.tmp 28) rfl w.heap.size _ _ (BG xs k) (chunk xs k) rfl rfl (Z8.out.below HBL5.out) ⟨wr.heap.size,64,[],by rw [mO],oD.out.size,by rw [← HCH.out];exact gu.out,by rw [mO];rfl,by unfold maxLen;omega⟩ (by rw [uj];omega) (Nat.le_trans oD.out.size HBL5.out.size) ?_;intro v6 w6 BA Hf;have Jh:=Lib.hid BA;have mU:=Lib.hid Hf;clear BA Hf))
   go_roundw
   case rel=>exact ⟨k+1,by omega,by go_num,by rw [vB];exact Jh.out,((oD.out.trans (HBL5.out.mono oD.out.size)).alloc (Nat.le_trans oD.out.size HBL5.out.size) _).grown mU.out (Nat.le_trans oD.out.size (Nat.le_trans HBL5.out.size (by simp))) (fun j e=>(dS.lt Z8.out j e).1)⟩
   case measure=>simp [intOf];omega
  ·by_cases h0:k=0
   ·subst h0
    have hn0:n≤0:=by omega
    have Z8:=Lib.hid hOk
    have oD:=Lib.hid hB
    have hb0:(wr.alloc (.cells (jK (zeros 64) []) 5)).heap[wr.heap.size]? = some (.cells (jK (zeros 64) []) 5 (0,0)):=aL _ _
    have hch:chunk xs 0=zeros 64:=by
     have:xs=[]:=List.eq_nil_of_length_eq_zero (by rw [iG.out];omega)
     subst this
     rfl
    have HB0:=Lib.hid hb0
    have HCH:=Lib.hid hch
    have mh:=Lib.hid ((Below.refl wr.heap.size wr).alloc (Nat.le_refl _) (.cells (jK (zeros 64) []) 5))
    clear hOk hO hB hb0 hch
    rcases sa with _|ad
    ·go_wp2_with (first|((with_reducible refine aS 25 ?_);refine wpList_copy_nothing rfl _ _ 24 24 rfl 5 Tryd.underlying24 sU _ _ _ _ _ _ rfl rfl (by show min _ _=0;omega) ?_)|((with_reducible refine aS 29 ?_);refine lG rfl (.tmp 26) (.tmp 28) rfl w.heap.size _ _ (BG xs 0) (zeros 64) rfl (by rw [World.size_alloc];rfl) (Z8.out.below mh.out) ⟨wr.heap.size,64,[],rfl,oD.out.size,HB0.out,by simp [zeros],by unfold maxLen;omega⟩ (by rw [uj];omega) (Nat.le_trans oD.out.size mh.out.size) ?_;intro v6 w6 BA Hf;have Jh:=Lib.hid BA;have mU:=Lib.hid Hf;clear BA Hf))
     go_roundw
     case rel=>exact ⟨0+1,by unfold gT;split <;> omega,by go_num,by rw [vB,HCH.out];exact Jh.out,((oD.out.trans (mh.out.mono oD.out.size)).alloc (Nat.le_trans oD.out.size mh.out.size) _).grown mU.out (Nat.le_trans oD.out.size (Nat.le_trans mh.out.size (by simp))) (fun j e=>(dS.lt Z8.out j e).1)⟩
     case measure=>simp [intOf]
    ·go_wp2_with (first|((with_reducible refine aS 25 ?_);refine wpList_copy_nothing rfl _ _ 24 24 rfl 5 Tryd.underlying24 sU _ _ _ _ _ _ rfl rfl (by show min _ _=0;omega) ?_)|((with_reducible refine aS 29 ?_);refine lG rfl (.tmp 26) (.tmp 28) rfl w.heap.size _ _ (BG xs 0) (zeros 64) rfl (by rw [World.size_alloc];rfl) (Z8.out.below mh.out) ⟨wr.heap.size,64,[],rfl,oD.out.size,HB0.out,by simp [zeros],by unfold maxLen;omega⟩ (by rw [uj];omega) (Nat.le_trans oD.out.size mh.out.size) ?_;intro v6 w6 BA Hf;have Jh:=Lib.hid BA;have mU:=Lib.hid Hf;clear BA Hf))
     go_roundw
     case rel=>exact ⟨0+1,by unfold gT;split <;> omega,by go_num,by rw [vB,HCH.out];exact Jh.out,((oD.out.trans (mh.out.mono oD.out.size)).alloc (Nat.le_trans oD.out.size mh.out.size) _).grown mU.out (Nat.le_trans oD.out.size (Nat.le_trans mh.out.size (by simp))) (fun j e=>(dS.lt Z8.out j e).1)⟩
     case measure=>simp [intOf]
   ·have hk2:k=gT n:=by
     unfold gT at hk ⊢
     split at hk
     ·rename_i hz;rw [if_pos hz];omega
     ·rename_i hz;rw [if_neg hz];omega
    have hce:BG xs k=LQ xs:=by rw [hk2,← iG.out];rfl
    rw [hce] at hOk
    have t2:((64 * (k:Int)) == 0)=false:=by simp;omega
    clear hO hk2 hce h0
    go_wp2_with fail
    go_ret2
    exact ⟨_,rfl,hOk,hB⟩
end Go.Proofs.YthdgbgleklkaiaaDoor
namespace Go.Proofs.YthdgbgleklkaiaaDoor
open Go.RowKit Go.Shelf
attribute [local go_sem] Oper.semAt_some
end Go.Proofs.YthdgbgleklkaiaaDoor
namespace Go.Proofs.YthdgbgleklkaiaaDoor
open Go.RowKit Go.Shelf
attribute [local go_sem] Oper.semAt_some
theorem dS.cells {w:World} {B:Nat} {v:Value} {L:List (List Int)} (h:dS w B v L) (j:Nat) (o:Obj) (hj:v.ownBlock=some j) (ho:w.heap[j]? = some o):o.isCells=true:=by
 obtain ⟨vs,⟨h1,h2⟩,h3,h4⟩:=h
 rcases h2 with ⟨rfl,_⟩|⟨g,cap,cur,rfl,hb,hg,hr⟩
 ·cases hj
 ·have:g=j:=by simpa [Value.ownBlock] using hj
  subst this
  rw [hg] at ho
  cases ho
  rfl
theorem dS.mono {w:World} {B B':Nat} {v:Value} {L:List (List Int)} (h:dS w B v L) (hB:B'≤B):dS w B' v L:=by
 obtain ⟨vs,⟨h1,h2⟩,h3,h4⟩:=h
 refine ⟨vs,⟨h1,?_⟩,h3,fun i hi=>(h4 i hi).mono hB⟩
 rcases h2 with h0|⟨g,cap,cur,rfl,hb,hr⟩
 ·exact .inl h0
 ·exact .inr ⟨g,cap,cur,rfl,by omega,hr⟩
theorem dS.store {w:World} {B b:Nat} {v u x:Value} {L:List (List Int)} (h:dS w B v L) (hb:w.heap[b]? = some (.cells #[x] 44 (0,0))):dS (w.setCell ⟨b,0,none⟩ u) B v L:=by
 have far:∀ {g:Nat} {c:Array Value} {t:TypeId},t ≠ 44 → w.heap[g]? = some (.cells c t (0,0))→(w.setCell ⟨b,0,none⟩ u).heap[g]? = some (.cells c t (0,0)):=by
  intro g c t ht hg
  refine aB hg _ (fun e=>?_)
  rw [e,hb] at hg
  injection hg with hg
  injection hg with _ e2
  exact ht e2.symm
 obtain ⟨vs,⟨h1,h2⟩,h3,h4⟩:=h
 refine ⟨vs,⟨h1,?_⟩,h3,fun i hi=>?_⟩
 ·rcases h2 with h0|⟨g,cap,cur,rfl,hB,hg,hrr⟩
  ·exact .inl h0
  ·exact .inr ⟨g,cap,cur,rfl,hB,far (by decide) hg,hrr⟩
 ·obtain ⟨g,cap,sp,e,hB,hg,hc,hm⟩:=h4 i hi
  exact ⟨g,cap,sp,e,hB,far (by decide) hg,hc,hm⟩
end Go.Proofs.YthdgbgleklkaiaaDoor
namespace Go.Proofs.YthdgbgleklkaiaaDoor
open Go.RowKit Go.Shelf
attribute [local go_sem] Oper.semAt_some
end Go.Proofs.YthdgbgleklkaiaaDoor
namespace Go.Proofs.YthdgbgleklkaiaaDoor
open Go.RowKit
theorem dS.at {w:World} {B:Nat} {v:Value} {L:List (List Int)} (h:dS w B v L):∃ sa c,v = .slice sa L.length c∧L.length≤c∧∀ i,i < L.length→∃ a g c' sp,sa=some a∧w.cell? (a.add i)=some (.slice (some ⟨g,0,none⟩) (L.getD i []).length c')∧w.heap[g]? = some (.cells (jK (L.getD i []) sp) 5 (0,0))∧c'=(L.getD i []).length+sp.length∧jQ w B (.slice (some ⟨g,0,none⟩) (L.getD i []).length c') (L.getD i []):=by
 obtain ⟨vs,⟨h1,h2⟩,h3,h4⟩:=h
 rcases h2 with ⟨rfl,h0⟩|⟨g,cap,cur,rfl,hB,hg,hn,hm,hs,ht⟩
 ·have:L=[]:=List.eq_nil_of_length_eq_zero h0
  subst this
  exact ⟨none,0,rfl,by simp,fun i hi=>absurd hi (by simp)⟩
 ·refine ⟨_,cap,rfl,hn,fun i hi=>?_⟩
  have ho:=h4 i hi
  obtain ⟨g',c',sp',e,hB',hg',hc',hm'⟩:=ho
  refine ⟨_,g',c',sp',rfl,?_,hg',hc',⟨g',c',sp',rfl,hB',hg',hc',hm'⟩⟩
  have e1:(⟨g,0,none⟩:Addr).add i=⟨g,i,none⟩:=by unfold Addr.add;split <;> simp_all
  have hl:=congrArg (fun l=>l[i]?) ht
  simp only [Nat.mul_one,List.getElem?_take,hi,if_true] at hl
  rw [e1,aG hg]
  have hv:vs[i]? = some (vs.getD i undef):=by simp [List.getD,show i < vs.length by omega]
  rw [hv,e] at hl
  simpa using hl
end Go.Proofs.YthdgbgleklkaiaaDoor
namespace Go.Proofs.YthdgbgleklkaiaaDoor
open Go.RowKit
theorem Zj (xs:List Int):(LQ xs).length=gT xs.length:=by simp [LQ]
theorem cutL_at (xs:List Int) (i:Nat) (h:i < gT xs.length):(LQ xs).getD i []=chunk xs i:=by simp [LQ,List.getD,h]
end Go.Proofs.YthdgbgleklkaiaaDoor
namespace Go.Proofs.YthdgbgleklkaiaaDoor.Im
open Go.RowKit Lm Po Ch Ae
structure B1 (w wr:World) (c0:Array Value) (t0:TypeId):Prop where
 b0:wr.heap[w.heap.size]? = some (.cells c0 t0 (0,0))
 below:Below w.heap.size w wr
theorem B1.after {w wr w':World} {c0:Array Value} {t0:TypeId} (h:B1 w wr c0 t0) (k:Below wr.heap.size wr w'):B1 w w' c0 t0:=⟨Below.blk k h.b0 (aR h.b0),h.below.trans (k.mono h.below.size)⟩
end Go.Proofs.YthdgbgleklkaiaaDoor.Im
namespace Go.Proofs.YthdgbgleklkaiaaDoor.Im
open Go.RowKit Lm Po Ch Ae
theorem Cb {key:List Int} {v i:Int} {p:List Int} (h:0≤v∧v≤2147483647∧0≤i∧i < 32) (hl:p.length=64):nS v i p=0∧nR key v i p=lH key (iE i) p (jo v):=by
 simp [nS,nR,jA,zi.2 h,hl]
end Go.Proofs.YthdgbgleklkaiaaDoor.Im
namespace Go.Proofs.YthdgbgleklkaiaaDoor.Im
open Go.RowKit Lm Po Ch Ae
def lU (key:List Int) (v:Int) (xs:List Int) (i:Nat):List Int:=lH key (iE (i:Int)) (chunk xs i) (jo v)
def oM (key:List Int) (v:Int) (xs:List Int) (k:Nat):List (List Int):=(List.range k).map (lU key v xs)
theorem JB (key:List Int) (v:Int) (xs:List Int) (k:Nat):oM key v xs (k+1)=oM key v xs k ++ [lU key v xs k]:=by simp [oM,List.range_succ]
theorem uV (key:List Int) (v:Int) (xs:List Int) (k:Nat):(oM key v xs k).length=k:=by simp [oM]
theorem yP (key:List Int) (v:Int) (xs:List Int) (k:Nat):(lU key v xs k).length=80:=by rw [lU,Gt,mO]
theorem D8 {n:Nat} (h:n≤2048):gT n≤32:=by unfold gT;split <;> omega
theorem owns_of {w:World} {B:Nat} {sa:Option Addr} {n c:Nat} {xs:List Int} (h:aV w B (.slice sa n c) xs) (hn:0 < n):jQ w B (.slice sa n c) xs :=
 jQ.JQ h (by intro e;cases e;omega)
theorem wZ (key l:List Int) (v:Int) (j:Nat) (sp:Option Addr) (n cp:Nat) (w:World) (hv:0≤v∧v≤2147483647∧j < 32) (hk:key.length=32) (bk:bytes key) (hs:Src w sp n l) (kc:n≤cp) (hl:n=64) :
  Calls Tryd.prog 44 #[.agg (arr .u8 key), .int .i64 v, .int .i64 (j:Int), .slice sp n cp] w fun e w'=>∃ u,e = .returned (.tuple #[u, .int .i64 0])∧aV w' w.heap.size u (lH key (iE (j:Int)) l (jo v))∧Below w.heap.size w w':=by
 have h:=ny key l v (j:Int) sp n cp w hk bk hs kc
 rw [(Cb (key:=key) (v:=v) (i:=(j:Int)) (p:=l) (by omega) (by rw [hs.len];exact hl)).1,(Cb (key:=key) (v:=v) (i:=(j:Int)) (p:=l) (by omega) (by rw [hs.len];exact hl)).2] at h
 exact h
theorem QE (key xs:List Int) (v:Int) (sp:Option Addr) (n cp:Nat) (w:World) (hk:key.length=32) (bk:bytes key) (hs:Src w sp n xs) (kc:n≤cp) (hn:n≤2048) (hv:0≤v∧v≤2147483647) :
  Calls Tryd.prog 32 #[.agg (arr .u8 key), .int .i64 v, .slice sp n cp] w fun e w'=>∃ u,e = .returned (.tuple #[u, .int .i64 0])∧dS w' w.heap.size u (oM key v xs (gT n))∧Below w.heap.size w w':=by
 have hbw:=(Below.refl _ w).alloc (Nat.le_refl _) (.cells (arr .u8 key) 23)
 have HW:=Lib.hid hbw
 have hl:=hs.len
 have hcl:=Zj xs
 rw [hl] at hcl
 have hcat:=cutL_at xs
 rw [hl] at hcat
 have h32:=D8 hn
 have h1:0 < gT n:=by unfold gT;split <;> omega
 have MS:=fun (j:Nat) (hj:j < 32) (l:List Int) (hll:l.length=64) sp cp w (hs:Src w sp 64 l) kc=>wZ key l v j sp 64 cp w ⟨hv.1,hv.2,hj⟩ hk bk hs kc rfl
 have hr0:=aL w (.cells (arr .u8 key) 23)
 have dU:=Lib.hid hr0
 have HX:=Lib.hid (hs.below hbw)
 have l9:=Lib.hid hk
 have Bq:=Lib.hid MS
 have HCA:=Lib.hid hcat
 have mV:=Lib.hid hcl
 have HL:=Lib.hid hl
 obtain ⟨m,hm⟩:∃ m,m=gT n:=⟨_,rfl⟩
 rw [← hm] at HCA mV h32 h1 ⊢
 clear hbw hr0 hs hk bk MS hcat hcl hl
 obtain ⟨L,hL⟩:∃ x,x=LQ xs:=⟨_,rfl⟩
 rw [← hL] at HCA mV
 have HLE:=Lib.hid hL
 clear hL
 go_enter Tryd.func32, Tryd.ntmps32
 go_wp2_with (first|((with_reducible show Calls _ _ #[.slice _ _ _] _ _);go_at_call 43; refine (Ux _ _ _ xs _ HX.out kc hn).mono ?_;rintro e w1 ⟨v1,rfl,ho1,hb1⟩;rw [← HLE.out] at ho1;obtain ⟨sa,c,hv1, -, hat⟩:=ho1.at;rw [mV.out] at hv1 hat;subst hv1;have HAT:=Lib.hid hat;have HB1:=Lib.hid (HW.out.trans (hb1.mono HW.out.size));have uH:=Lib.hid (Below.blk hb1 dU.out (aR dU.out));clear ho1 hat hb1))
 go_loopw [10,11] (fun u i wr=>∃ j:Nat,j≤m∧i = .int .i64 j∧dS wr w1.heap.size u (oM key v xs j)∧Below w1.heap.size w1 wr) (fun _ i _=>m - (intOf i).toNat)
 case atStart=>exact ⟨0,Nat.zero_le _,rfl,dS.nil _ _,Below.refl _ _⟩
 case round =>
  obtain ⟨j,hj,rfl,hO,hB⟩:=hrel
  have hOf:=hO.form
  rw [uV] at hOf
  by_cases hlt:j < m
  ·obtain ⟨ad,g,ci,sq,rfl,x1,hg,hci, -⟩:=HAT.out j hlt
   have x0:=fJ hB x1
   have hsi:=Ob (Below.blk hB hg (aR hg))
   have hch:=HCA.out j hlt
   rw [hch,mO] at x0 hci hsi
   have h64:=mO xs j
   have hsl:=yP key v xs j
   have hsx:=JB key v xs j
   have MS:=fun sp cp w hs kc=>Bq.out j (by omega) (chunk xs j) h64 sp cp w hs kc
   have hse:lH key (iE (j:Int)) (chunk xs j) (jo v)=lU key v xs j:=rfl
   rw [hse] at MS
   generalize chunk xs j=ck at *
   generalize lU key v xs j=sk at *
   have hln:=uV key v xs j
   generalize oM key v xs j=S0 at *
   have F5:=Lib.hid MS
   have IB:=Lib.hid hsi
   have HCI:=Lib.hid (show 64≤ci by omega)
   have HSL:=Lib.hid hsl
   have HSX:=Lib.hid hsx
   have HO:=Lib.hid hO
   have oD:=Lib.hid hB
   have HLN:=Lib.hid hln
   have HKR:=Lib.hid (Below.blk hB uH.out (aR uH.out))
   obtain ⟨va,vc,hv1, -⟩:=hOf
   subst hv1
   clear x1 hg hci hsi hch h64 hsl hsx MS hse hO hB hln
   go_upto_region 8 with fail
   have HB0:=Lib.hid (show Below wr.heap.size wr wr.drew from ⟨rfl,rfl,rfl,Nat.le_refl _,fun _ _=>rfl⟩)
   refine wp_region_held_drew (S:=(fun w'=>Go.RowKit.Below wr.heap.size wr w')) (by kernel_rfl) (HB0.out) (fun hHeld=>?_)
   refine' wpAnyH_take (i:=0) (oi:=(⟨some 29,_,_,_,_,none⟩:Oper)) (v:=_) rfl (by kernel_rfl) (by kernel_rfl) (by kernel_rfl) (fun _ _ _ h=>h) (yieldsIf_load_mid (by rfl) _ _ rfl _ _ rfl (key.map (Value.int .u8)) _ ?hS1001 Tryd.underlying23 rfl (by rw [List.length_map,l9.out];exact qV)) (by assumption) ?rest1001
   case hS1001=>(intro w hSw;exact aM (Below.blk hSw HKR.out (aR HKR.out)) 0 _ (by rw [List.length_map];exact au _ _))
   (try simp only [Act.put,sA,sZ,sS])
   refine wpAnyH_take (i:=1) (oi:=(⟨some 30,_,_,_,_,none⟩:Oper)) (v:=?v1002) rfl (by kernel_rfl) (by kernel_rfl) (by kernel_rfl) (fun _ _ _ h=>h) (Or.inl ⟨by rfl,?hy1002⟩) (by assumption) ?rest1002
   case hy1002=>(intro w hSw;(try dsimp only at hSw);go_simp;try (with_reducible rfl))
   (try simp only [Act.put,sA,sZ,sS])
   refine wpAnyH_take (i:=2) (oi:=(⟨some 31,_,_,_,_,none⟩:Oper)) (v:=?v1003) rfl (by kernel_rfl) (by kernel_rfl) (by kernel_rfl) (fun _ _ _ h=>h) (Or.inl ⟨by rfl,?hy1003⟩) (by assumption) ?rest1003
   case hy1003=>(intro w hSw;(try dsimp only at hSw);go_simp;try (with_reducible rfl))
   (try simp only [Act.put,sA,sZ,sS])
   refine wpAnyH_take (i:=3) (oi:=(⟨some 32,_,_,_,_,none⟩:Oper)) (v:=?v1004) rfl (by kernel_rfl) (by kernel_rfl) (by kernel_rfl) (fun _ _ _ h=>h) (Or.inl ⟨by rfl,?hy1004⟩) (by assumption) ?rest1004
   case hy1004=>(intro w hSw;(try dsimp only at hSw);go_simp;try (with_reducible rfl))
   (try simp only [Act.put,sA,sZ,sS])
   refine wpAnyH_take (i:=4) (oi:=(⟨some 33,_,_,_,_,none⟩:Oper)) (v:=?v1005) rfl (by kernel_rfl) (by kernel_rfl) (by kernel_rfl) (fun _ _ _ h=>h) (Or.inl ⟨by rfl,?hy1005⟩) (by assumption) ?rest1005
   case hy1005=>(intro w hSw;(try dsimp only at hSw);go_simp;try (with_reducible rfl))
   (try simp only [Act.put,sA,sZ,sS])
   refine wpAnyH_take (i:=5) (oi:=(⟨some 34,_,_,_,_,none⟩:Oper)) (v:=?v1006) rfl (by kernel_rfl) (by kernel_rfl) (by kernel_rfl) (fun _ _ _ h=>h) (Or.inl ⟨by rfl,?hy1006⟩) (by assumption) ?rest1006
   case hy1006=>(intro w hSw;(try dsimp only at hSw);go_simp;try (with_reducible rfl))
   (try simp only [Act.put,sA,sZ,sS])
   refine wpAnyH_take (i:=6) (oi:=(⟨some 35,_,_,_,_,none⟩:Oper)) (v:=(.slice (some ⟨g,0,none⟩) 64 ci)) rfl (by kernel_rfl) (by kernel_rfl) (by kernel_rfl) (fun _ _ _ h=>h) (Or.inl ⟨by rfl,?hy1007⟩) (by assumption) ?rest1007
   case hy1007=>(intro w hSw;(try dsimp only at hSw);have hx:=fJ hSw x0;go_simp;try (with_reducible rfl))
   (try simp only [Act.put,sA,sZ,sS])
   refine wpAnyH_ready (rs:=[7]) (by kernel_rfl) (by simp) ?_
   refine AllReadyH.cons (o:=(⟨some 36,_,_,_,_,none⟩:Oper)) rfl (fun K hK=>?_) AllReadyH.nil
   go_simp
   go_at_call 44
   refine (F5.out _ _ _ (IB.out.below hHeld) HCI.out).mono ?_
   rintro e TG ⟨v5,rfl,ho5,zK⟩
   have Bh:=Lib.hid (HB0.out.trans (zK.mono HB0.out.size))
   obtain ⟨s5,c5,hv5, -⟩:=ho5.form
   rw [HSL.out] at hv5
   subst hv5
   have Sv:=Lib.hid ((owns_of ho5 (by decide)).mono (B':=wr.heap.size) hHeld.size)
   clear ho5
   clear zK
   (try dsimp only)
   refine hK.out _ _ (Bh.out) (fun hHeld=>?_)
   clear hK K
   (try simp only [Act.put,sA,sZ,sS])
   refine wpAnyH_take (i:=8) (oi:=(⟨some 28,_,_,_,_,none⟩:Oper)) (v:=?v1009) rfl (by kernel_rfl) (by kernel_rfl) (by kernel_rfl) (fun _ _ _ h=>h) (Or.inl ⟨by rfl,?hy1009⟩) (by assumption) ?rest1009
   case hy1009=>(intro w hSw;(try dsimp only at hSw);go_simp;try (with_reducible rfl))
   (try simp only [Act.put,sA,sZ,sS])
   refine wpAnyH_take (i:=9) (oi:=(⟨some 37,_,_,_,_,none⟩:Oper)) (v:=?v1010) rfl (by kernel_rfl) (by kernel_rfl) (by kernel_rfl) (fun _ _ _ h=>h) (Or.inl ⟨by rfl,?hy1010⟩) (by assumption) ?rest1010
   case hy1010=>(intro w hSw;(try dsimp only at hSw);go_simp;try (with_reducible rfl))
   (try simp only [Act.put,sA,sZ,sS])
   refine wpAnyH_take (i:=10) (oi:=(⟨some 38,_,_,_,_,none⟩:Oper)) (v:=?v1011) rfl (by kernel_rfl) (by kernel_rfl) (by kernel_rfl) (fun _ _ _ h=>h) (Or.inl ⟨by rfl,?hy1011⟩) (by assumption) ?rest1011
   case hy1011=>(intro w hSw;(try dsimp only at hSw);go_simp;try (with_reducible rfl))
   (try simp only [Act.put,sA,sZ,sS])
   refine wpAnyH_take (i:=11) (oi:=(⟨some 12,_,_,_,_,none⟩:Oper)) (v:=?v1012) rfl (by kernel_rfl) (by kernel_rfl) (by kernel_rfl) (fun _ _ _ h=>h) (Or.inl ⟨by rfl,?hy1012⟩) (by assumption) ?rest1012
   case hy1012=>(intro w hSw;(try dsimp only at hSw);go_simp;try (with_reducible rfl))
   (try simp only [Act.put,sA,sZ,sS])
   refine wpAnyH_take (i:=12) (oi:=(⟨some 13,_,_,_,_,none⟩:Oper)) (v:=?v1013) rfl (by kernel_rfl) (by kernel_rfl) (by kernel_rfl) (fun _ _ _ h=>h) (Or.inl ⟨by rfl,?hy1013⟩) (by assumption) ?rest1013
   case hy1013=>(intro w hSw;(try dsimp only at hSw);go_simp;try (with_reducible rfl))
   (try simp only [Act.put,sA,sZ,sS])
   refine wpAnyH_done (by kernel_rfl) ?_ _
   have gu:=Bh
   (try simp only [Exit.then])
   go_wp2_with (first|((with_reducible refine aS 45 ?_);refine lG rfl (.tmp 42) (.tmp 44) rfl w1.heap.size _ _ S0 sk rfl rfl (HO.out.below gu.out) (Sv.out.mono oD.out.size) (by rw [HLN.out];omega) (Nat.le_trans oD.out.size gu.out.size) ?_;intro v6 w6 BA Hf;have Jh:=Lib.hid BA;have mU:=Lib.hid Hf;clear BA Hf))
   go_roundw
   case rel=>exact ⟨j+1,by omega,by go_num,by rw [HSX.out];exact Jh.out,((oD.out.trans (gu.out.mono oD.out.size)).alloc (Nat.le_trans oD.out.size gu.out.size) _).grown mU.out (Nat.le_trans oD.out.size (Nat.le_trans gu.out.size (by simp))) (fun j e=>(dS.lt HO.out j e).1)⟩
   case measure=>simp [intOf];omega
  ·obtain rfl:j=m:=by omega
   have HO:=Lib.hid hO
   have oD:=Lib.hid hB
   clear hO hB hOf
   go_wp2_with fail
   go_ret2
   exact ⟨_,rfl,HO.out.mono HB1.out.size,HB1.out.trans (oD.out.mono HB1.out.size)⟩
end Go.Proofs.YthdgbgleklkaiaaDoor.Im
