/- portcullisref16.Cut: slices.Chunk of bytes, 64 at a time: image.Cut: image.Cut: portcullislaw18: portcullislaw18.alive and ImageCuts: portcullislaw18: portcullislaw18: image.Make a. Condition: as each theorem says. -/
import Derived.BigRegionIn
import Derived.LoopIn
import Derived.LoopNIn
import Derived.OwnWalkIn
import Derived.RangeFuncBound
import Derived.RangeFuncCalls
import Derived.RangeFuncLeaves
import Derived.RangeFuncNested
import Derived.Shelf.Abstract
import Derived.Shelf.RegionOpen
import Derived.TacticsInMore
import Derived.WalkKit
import Derived.Test.YthdgbgleklkaiaaDoorQb04
import Derived.Test.YthdgbgleklkaiaaDoorQb23
import Derived.Test.YthdgbgleklkaiaaDoorQb27
import Derived.Test.YthdgbgleklkaiaaDoorQb32
import Derived.Test.YthdgbgleklkaiaaDoorQb38
open Go.Lib renaming hid→acD
open Nat renaming le_trans→acE,le_refl→acF
open List renaming range→acG,length_map→acH,length_drop→acI,range_succ→acJ,nil_append→acK,getElem?_take→acL,eq_nil_of_length_eq_zero→acN,take_of_length_le→acP,drop_drop→acR
set_option linter.unusedSimpArgs false
set_option linter.unusedVariables false
set_option maxRecDepth 100000
set_option maxHeartbeats 16000000
namespace Go.Proofs.YthdgbgleklkaiaaDoor
open Go.RowKit
def chunk (xs:List Int) (k:Nat):List Int:=(xs.drop (64 * k)).take 64 ++ zeros (64 - (xs.length - 64 * k))
def gZ (n:Nat):Nat:=if n=0 then 1 else (n+63) / 64
def M6 (xs:List Int):List (List Int):=(acG (gZ xs.length)).map (chunk xs)
def CW (xs:List Int) (k:Nat):List (List Int):=(acG k).map (chunk xs)
theorem vQ (xs:List Int) (k:Nat):CW xs (k+1)=CW xs k ++ [chunk xs k]:=by simp [CW,acJ]
theorem uO (xs:List Int) (k:Nat):(CW xs k).length=k:=by simp [CW]
theorem mZ (xs:List Int) (k:Nat):(chunk xs k).length=64:=by simp [chunk,zeros];omega
theorem add_add (a:Addr) (i j:Nat):(a.add i).add j=a.add (i+j):=by
 obtain ⟨b,o,s⟩:=a
 unfold Addr.add
 by_cases hi:i=0
 ·subst hi;simp
 ·by_cases hj:j=0
  ·subst hj;simp
  ·simp [hi,hj,Nat.add_assoc]
theorem FK (xs:List Int) (k:Nat) :
  (splice ((zeros 64).map (Value.int .u8) ++ []) 0 (((xs.drop (64 * k)).take 64).map (Value.int .u8))).toArray=jS (chunk xs k) []:=by
 unfold splice jS chunk zeros
 simp only [List.append_nil,List.take_zero,acK,Nat.zero_add,acH,List.map_append,List.map_replicate,List.drop_replicate,List.length_take,acI]
 congr 2
 congr 1
 omega
theorem TG {w:World} {ad:Addr} {n:Nat} {xs:List Int} (h:Src w (some ad) n xs) (k:Nat) :
  ∀ j v,(((xs.drop (64 * k)).take 64).map (Value.int .u8))[j]? = some v→w.cell? ((ad.add (64 * k)).add j)=some v:=by
 intro j v hj
 rw [add_add]
 refine jk h ad rfl (64 * k+j) v ?_
 simp only [List.getElem?_map,acL,List.getElem?_drop] at hj ⊢
 split at hj
 ·exact hj
 ·cases hj
theorem VO (sa:Option Addr) (n c:Nat) (xs:List Int) (w:World) (hs:Src w sa n xs) (hc:n≤c) (hn:n≤2048) :
  Calls Tryd.prog 43 #[.slice sa n c] w fun e w'=>∃ v,e = .returned (.tuple #[v, .int .i64 0])∧dX w' w.heap.size v (M6 xs)∧Below w.heap.size w w':=by
 have hxl:=hs.len
 have hmk:∀ w:World,(Instr.makeSlice 24 (.int .i64 64) (.int .i64 64)).run Tryd.prog w = .ok (.slice (some ⟨w.heap.size,0,none⟩) 64 64) (w.alloc (.cells (jS (zeros 64) []) 5)):=mk8 64 (by omega)
 have HS:=acD hs
 have iK:=acD hxl
 clear hs hxl
 go_enter Tryd.func43, Tryd.ntmps43
 go_wp2_with fail
 go_loopw [4,5] (fun v i wr=>∃ k:Nat,k≤gZ n∧i = .int .i64 (64 * (k:Int))∧dX wr w.heap.size v (CW xs k)∧Below w.heap.size w wr) (fun _ i _=>4096 - (intOf i).toNat)
 case atStart=>exact ⟨0,Nat.zero_le _,rfl,dX.nil _ _,Below.refl _ _⟩
 case round =>
  obtain ⟨k,hk,rfl,hO,hB⟩:=hrel
  obtain ⟨va,vc,hv, -⟩:=hO.form
  rw [uO] at hv
  subst hv
  have hOk:=hO
  by_cases hlt:64 * k < n
  ·obtain ⟨ad,rfl⟩:∃ ad,sa=some ad:=by
    obtain ⟨a,e,_⟩:=HS.out.cell 0 (by omega)
    exact ⟨a,e⟩
   have hkn:k < gZ n:=by unfold gZ;rw [if_neg (by omega)];omega
   have hs1:=(HS.out.below hB).below ((Below.refl _ wr).alloc (acF _) (.cells (jS (zeros 64) []) 5))
   obtain ⟨cs,hcs⟩:∃ cs,cs=((xs.drop (64 * k)).take 64).map (Value.int .u8):=⟨_,rfl⟩
   have hcl:cs.length=Nat.min (n - 64 * k) 64:=by
    show _=min (n - 64 * k) 64
    rw [hcs,← iK.out];simp;omega
   have hpos:0 < cs.length→some (⟨wr.heap.size,0,none⟩:Addr)=some ⟨wr.heap.size,0,none⟩∧∃ ad',some (ad.add (64 * k))=some ad'∧∀ j v,cs[j]? = some v→(wr.alloc (.cells (jS (zeros 64) []) 5)).cell? (ad'.add j)=some v :=
    fun _=>⟨rfl,_,rfl,fun j v hj=>TG hs1 k j v (by rw [← hcs];exact hj)⟩
   have hb0:(wr.alloc (.cells (jS (zeros 64) []) 5)).heap[wr.heap.size]? = some (.cells ((zeros 64).map (Value.int .u8) ++ []).toArray 5 (0,0)):=aG _ _
   have hbel:=(Below.refl wr.heap.size wr).alloc (acF _) (.cells (jS (zeros 64) []) 5)
   have hfit:0+cs.length≤((zeros 64).map (Value.int .u8) ++ []).length:=by rw [hcl];show 0+min (n - 64 * k) 64≤_;simp [zeros];omega
   have hone:∀ v∈cs,v.oneCell'=true:=by rw [hcs];exact mQ _ _
   have hch:=FK xs k
   rw [← hcs] at hch
   have nD:=acD hcl
   have HPOS:=acD hpos
   have HB0:=acD hb0
   have mH:=acD hbel
   have HFIT:=acD hfit
   have HONE:=acD hone
   have HCH:=acD hch
   have HOK:=acD hOk
   have oZ:=acD hB
   clear hs1 hcs hcl hpos hb0 hbel hfit hone hch hOk hO hB
   go_wp2_with (first|((with_reducible refine aS 25 ?_);refine wpList_copy_splice rfl _ _ 24 24 rfl 5 Tryd.underlying24 nM _ _ _ _ _ _ rfl rfl wr.heap.size 0 _ 5 HB0.out cs nD.out HPOS.out HFIT.out HONE.out wr.heap.size wr mH.out (acF _) ?_;intro w5 hb5 hbl5;have fM:=hb5;have HBL5:=acD hbl5;clear hb5 hbl5)|((with_reducible refine aS 29 ?_);refine lU rfl (.tmp 26) (.tmp 28) rfl w.heap.size _ _ (CW xs k) (chunk xs k) rfl rfl (HOK.out.below HBL5.out) ⟨wr.heap.size,64,[],by rw [mZ],oZ.out.size,by rw [← HCH.out];exact fM.out,by rw [mZ];rfl,by unfold maxLen;omega⟩ (by rw [uO];omega) (acE oZ.out.size HBL5.out.size) ?_;intro v6 w6 yJ DR;have En:=acD yJ;have lN:=acD DR;clear yJ DR))
   go_roundw
   case rel=>exact ⟨k+1,by omega,by go_num,by rw [vQ];exact En.out,((oZ.out.trans (HBL5.out.mono oZ.out.size)).alloc (acE oZ.out.size HBL5.out.size) _).grown lN.out (acE oZ.out.size (acE HBL5.out.size (by simp))) (fun j e=>(dX.lt HOK.out j e).1)⟩
   case measure=>simp [intOf];omega
  ·by_cases h0:k=0
   ·subst h0
    have hn0:n≤0:=by omega
    have HOK:=acD hOk
    have oZ:=acD hB
    have hb0:(wr.alloc (.cells (jS (zeros 64) []) 5)).heap[wr.heap.size]? = some (.cells (jS (zeros 64) []) 5 (0,0)):=aG _ _
    have hch:chunk xs 0=zeros 64:=by
     have:xs=[]:=acN (by rw [iK.out];omega)
     subst this
     rfl
    have HB0:=acD hb0
    have HCH:=acD hch
    have mH:=acD ((Below.refl wr.heap.size wr).alloc (acF _) (.cells (jS (zeros 64) []) 5))
    clear hOk hO hB hb0 hch
    rcases sa with _|ad
    ·go_wp2_with (first|((with_reducible refine aS 25 ?_);refine wpList_copy_nothing rfl _ _ 24 24 rfl 5 Tryd.underlying24 nM _ _ _ _ _ _ rfl rfl (by show min _ _=0;omega) ?_)|((with_reducible refine aS 29 ?_);refine lU rfl (.tmp 26) (.tmp 28) rfl w.heap.size _ _ (CW xs 0) (zeros 64) rfl (by rw [World.size_alloc];rfl) (HOK.out.below mH.out) ⟨wr.heap.size,64,[],rfl,oZ.out.size,HB0.out,by simp [zeros],by unfold maxLen;omega⟩ (by rw [uO];omega) (acE oZ.out.size mH.out.size) ?_;intro v6 w6 yJ DR;have En:=acD yJ;have lN:=acD DR;clear yJ DR))
     go_roundw
     case rel=>exact ⟨0+1,by unfold gZ;split <;> omega,by go_num,by rw [vQ,HCH.out];exact En.out,((oZ.out.trans (mH.out.mono oZ.out.size)).alloc (acE oZ.out.size mH.out.size) _).grown lN.out (acE oZ.out.size (acE mH.out.size (by simp))) (fun j e=>(dX.lt HOK.out j e).1)⟩
     case measure=>simp [intOf]
    ·go_wp2_with (first|((with_reducible refine aS 25 ?_);refine wpList_copy_nothing rfl _ _ 24 24 rfl 5 Tryd.underlying24 nM _ _ _ _ _ _ rfl rfl (by show min _ _=0;omega) ?_)|((with_reducible refine aS 29 ?_);refine lU rfl (.tmp 26) (.tmp 28) rfl w.heap.size _ _ (CW xs 0) (zeros 64) rfl (by rw [World.size_alloc];rfl) (HOK.out.below mH.out) ⟨wr.heap.size,64,[],rfl,oZ.out.size,HB0.out,by simp [zeros],by unfold maxLen;omega⟩ (by rw [uO];omega) (acE oZ.out.size mH.out.size) ?_;intro v6 w6 yJ DR;have En:=acD yJ;have lN:=acD DR;clear yJ DR))
     go_roundw
     case rel=>exact ⟨0+1,by unfold gZ;split <;> omega,by go_num,by rw [vQ,HCH.out];exact En.out,((oZ.out.trans (mH.out.mono oZ.out.size)).alloc (acE oZ.out.size mH.out.size) _).grown lN.out (acE oZ.out.size (acE mH.out.size (by simp))) (fun j e=>(dX.lt HOK.out j e).1)⟩
     case measure=>simp [intOf]
   ·have hk2:k=gZ n:=by
     unfold gZ at hk ⊢
     split at hk
     ·rename_i hz;rw [if_pos hz];omega
     ·rename_i hz;rw [if_neg hz];omega
    have hce:CW xs k=M6 xs:=by rw [hk2,← iK.out];rfl
    rw [hce] at hOk
    have t2:((64 * (k:Int)) == 0)=false:=by simp;omega
    clear hO hk2 hce h0
    go_wp2_with fail
    go_ret2
    exact ⟨_,rfl,hOk,hB⟩
end Go.Proofs.YthdgbgleklkaiaaDoor
namespace Go.Proofs.YthdgbgleklkaiaaDoor
open Go.RowKit Go.Shelf
attribute [local go_sem] Oper.semAt_some
end Go.Proofs.YthdgbgleklkaiaaDoor
namespace Go.Proofs.YthdgbgleklkaiaaDoor
open Go.RowKit Go.Shelf
attribute [local go_sem] Oper.semAt_some
theorem dX.cells {w:World} {B:Nat} {v:Value} {L:List (List Int)} (h:dX w B v L) (j:Nat) (o:Obj) (hj:v.ownBlock=some j) (ho:w.heap[j]? = some o):o.isCells=true:=by
 obtain ⟨vs,⟨h1,h2⟩,h3,h4⟩:=h
 rcases h2 with ⟨rfl,_⟩|⟨g,cap,cur,rfl,hb,hg,hr⟩
 ·cases hj
 ·have:g=j:=by simpa [Value.ownBlock] using hj
  subst this
  rw [hg] at ho
  cases ho
  rfl
theorem dX.mono {w:World} {B B':Nat} {v:Value} {L:List (List Int)} (h:dX w B v L) (hB:B'≤B):dX w B' v L:=by
 obtain ⟨vs,⟨h1,h2⟩,h3,h4⟩:=h
 refine ⟨vs,⟨h1,?_⟩,h3,fun i hi=>(h4 i hi).mono hB⟩
 rcases h2 with h0|⟨g,cap,cur,rfl,hb,hr⟩
 ·exact .inl h0
 ·exact .inr ⟨g,cap,cur,rfl,by omega,hr⟩
theorem dX.store {w:World} {B b:Nat} {v u x:Value} {L:List (List Int)} (h:dX w B v L) (hb:w.heap[b]? = some (.cells #[x] 44 (0,0))):dX (w.setCell ⟨b,0,none⟩ u) B v L:=by
 have far:∀ {g:Nat} {c:Array Value} {t:TypeId},t ≠ 44 → w.heap[g]? = some (.cells c t (0,0))→(w.setCell ⟨b,0,none⟩ u).heap[g]? = some (.cells c t (0,0)):=by
  intro g c t ht hg
  refine aB hg _ (fun e=>?_)
  rw [e,hb] at hg
  injection hg with hg
  injection hg with _ e2
  exact ht e2.symm
 obtain ⟨vs,⟨h1,h2⟩,h3,h4⟩:=h
 refine ⟨vs,⟨h1,?_⟩,h3,fun i hi=>?_⟩
 ·rcases h2 with h0|⟨g,cap,cur,rfl,hB,hg,hrr⟩
  ·exact .inl h0
  ·exact .inr ⟨g,cap,cur,rfl,hB,far (by decide) hg,hrr⟩
 ·obtain ⟨g,cap,sp,e,hB,hg,hc,hm⟩:=h4 i hi
  exact ⟨g,cap,sp,e,hB,far (by decide) hg,hc,hm⟩
end Go.Proofs.YthdgbgleklkaiaaDoor
namespace Go.Proofs.YthdgbgleklkaiaaDoor
open Go.RowKit Go.Shelf
attribute [local go_sem] Oper.semAt_some
end Go.Proofs.YthdgbgleklkaiaaDoor
namespace Go.Proofs.YthdgbgleklkaiaaDoor
open Go.RowKit
theorem dX.at {w:World} {B:Nat} {v:Value} {L:List (List Int)} (h:dX w B v L):∃ sa c,v = .slice sa L.length c∧L.length≤c∧∀ i,i < L.length→∃ a g c' sp,sa=some a∧w.cell? (a.add i)=some (.slice (some ⟨g,0,none⟩) (L.getD i []).length c')∧w.heap[g]? = some (.cells (jS (L.getD i []) sp) 5 (0,0))∧c'=(L.getD i []).length+sp.length∧jY w B (.slice (some ⟨g,0,none⟩) (L.getD i []).length c') (L.getD i []):=by
 obtain ⟨vs,⟨h1,h2⟩,h3,h4⟩:=h
 rcases h2 with ⟨rfl,h0⟩|⟨g,cap,cur,rfl,hB,hg,hn,hm,hs,ht⟩
 ·have:L=[]:=acN h0
  subst this
  exact ⟨none,0,rfl,by simp,fun i hi=>absurd hi (by simp)⟩
 ·refine ⟨_,cap,rfl,hn,fun i hi=>?_⟩
  have ho:=h4 i hi
  obtain ⟨g',c',sp',e,hB',hg',hc',hm'⟩:=ho
  refine ⟨_,g',c',sp',rfl,?_,hg',hc',⟨g',c',sp',rfl,hB',hg',hc',hm'⟩⟩
  have e1:(⟨g,0,none⟩:Addr).add i=⟨g,i,none⟩:=by unfold Addr.add;split <;> simp_all
  have hl:=congrArg (fun l=>l[i]?) ht
  simp only [Nat.mul_one,acL,hi,if_true] at hl
  rw [e1,aF hg]
  have hv:vs[i]? = some (vs.getD i undef):=by simp [List.getD,show i < vs.length by omega]
  rw [hv,e] at hl
  simpa using hl
end Go.Proofs.YthdgbgleklkaiaaDoor
namespace Go.Proofs.YthdgbgleklkaiaaDoor
open Go.RowKit
theorem abC (xs:List Int):(M6 xs).length=gZ xs.length:=by simp [M6]
theorem cutL_at (xs:List Int) (i:Nat) (h:i < gZ xs.length):(M6 xs).getD i []=chunk xs i:=by simp [M6,List.getD,h]
end Go.Proofs.YthdgbgleklkaiaaDoor
namespace Go.Proofs.YthdgbgleklkaiaaDoor.Im
open Go.RowKit Lm Po Ch Ae
structure B1 (w wr:World) (c0:Array Value) (t0:TypeId):Prop where
 b0:wr.heap[w.heap.size]? = some (.cells c0 t0 (0,0))
 below:Below w.heap.size w wr
theorem B1.after {w wr w':World} {c0:Array Value} {t0:TypeId} (h:B1 w wr c0 t0) (k:Below wr.heap.size wr w'):B1 w w' c0 t0:=⟨Below.blk k h.b0 (aO h.b0),h.below.trans (k.mono h.below.size)⟩
end Go.Proofs.YthdgbgleklkaiaaDoor.Im
namespace Go.Proofs.YthdgbgleklkaiaaDoor.Im
open Go.RowKit Lm Po Ch Ae
theorem Dp {key:List Int} {v i:Int} {p:List Int} (h:0≤v∧v≤2147483647∧0≤i∧i < 32) (hl:p.length=64):oD v i p=0∧oC key v i p=lV key (iH i) p (iV v):=by
 simp [oD,oC,jF,z8.2 h,hl]
end Go.Proofs.YthdgbgleklkaiaaDoor.Im
namespace Go.Proofs.YthdgbgleklkaiaaDoor.Im
open Go.RowKit Lm Po Ch Ae
def mD (key:List Int) (v:Int) (xs:List Int) (i:Nat):List Int:=lV key (iH (i:Int)) (chunk xs i) (iV v)
def pI (key:List Int) (v:Int) (xs:List Int) (k:Nat):List (List Int):=(acG k).map (mD key v xs)
theorem Kl (key:List Int) (v:Int) (xs:List Int) (k:Nat):pI key v xs (k+1)=pI key v xs k ++ [mD key v xs k]:=by simp [pI,acJ]
theorem vE (key:List Int) (v:Int) (xs:List Int) (k:Nat):(pI key v xs k).length=k:=by simp [pI]
theorem zK (key:List Int) (v:Int) (xs:List Int) (k:Nat):(mD key v xs k).length=80:=by rw [mD,Hy,mZ]
theorem EX {n:Nat} (h:n≤2048):gZ n≤32:=by unfold gZ;split <;> omega
theorem owns_of {w:World} {B:Nat} {sa:Option Addr} {n c:Nat} {xs:List Int} (h:aU w B (.slice sa n c) xs) (hn:0 < n):jY w B (.slice sa n c) xs :=
 jY.KF h (by intro e;cases e;omega)
theorem xV (key l:List Int) (v:Int) (j:Nat) (sp:Option Addr) (n cp:Nat) (w:World) (hv:0≤v∧v≤2147483647∧j < 32) (hk:key.length=32) (bk:bytes key) (hs:Src w sp n l) (kc:n≤cp) (hl:n=64) :
  Calls Tryd.prog 44 #[.agg (arr .u8 key), .int .i64 v, .int .i64 (j:Int), .slice sp n cp] w fun e w'=>∃ u,e = .returned (.tuple #[u, .int .i64 0])∧aU w' w.heap.size u (lV key (iH (j:Int)) l (iV v))∧Below w.heap.size w w':=by
 have h:=nO key l v (j:Int) sp n cp w hk bk hs kc
 rw [(Dp (key:=key) (v:=v) (i:=(j:Int)) (p:=l) (by omega) (by rw [hs.len];exact hl)).1,(Dp (key:=key) (v:=v) (i:=(j:Int)) (p:=l) (by omega) (by rw [hs.len];exact hl)).2] at h
 exact h
theorem RZ (key xs:List Int) (v:Int) (sp:Option Addr) (n cp:Nat) (w:World) (hk:key.length=32) (bk:bytes key) (hs:Src w sp n xs) (kc:n≤cp) (hn:n≤2048) (hv:0≤v∧v≤2147483647) :
  Calls Tryd.prog 32 #[.agg (arr .u8 key), .int .i64 v, .slice sp n cp] w fun e w'=>∃ u,e = .returned (.tuple #[u, .int .i64 0])∧dX w' w.heap.size u (pI key v xs (gZ n))∧Below w.heap.size w w':=by
 have hbw:=(Below.refl _ w).alloc (acF _) (.cells (arr .u8 key) 23)
 have HW:=acD hbw
 have hl:=hs.len
 have hcl:=abC xs
 rw [hl] at hcl
 have hcat:=cutL_at xs
 rw [hl] at hcat
 have h32:=EX hn
 have h1:0 < gZ n:=by unfold gZ;split <;> omega
 have MS:=fun (j:Nat) (hj:j < 32) (l:List Int) (hll:l.length=64) sp cp w (hs:Src w sp 64 l) kc=>xV key l v j sp 64 cp w ⟨hv.1,hv.2,hj⟩ hk bk hs kc rfl
 have hr0:=aG w (.cells (arr .u8 key) 23)
 have dZ:=acD hr0
 have HX:=acD (hs.below hbw)
 have kU:=acD hk
 have F3:=acD MS
 have HCA:=acD hcat
 have nD:=acD hcl
 have HL:=acD hl
 obtain ⟨m,hm⟩:∃ m,m=gZ n:=⟨_,rfl⟩
 rw [← hm] at HCA nD h32 h1 ⊢
 clear hbw hr0 hs hk bk MS hcat hcl hl
 obtain ⟨L,hL⟩:∃ x,x=M6 xs:=⟨_,rfl⟩
 rw [← hL] at HCA nD
 have HLE:=acD hL
 clear hL
 go_enter Tryd.func32, Tryd.ntmps32
 go_wp2_with (first|((with_reducible show Calls _ _ #[.slice _ _ _] _ _);go_at_call 43; refine (VO _ _ _ xs _ HX.out kc hn).mono ?_;rintro e w1 ⟨v1,rfl,ho1,hb1⟩;rw [← HLE.out] at ho1;obtain ⟨sa,c,hv1, -, hat⟩:=ho1.at;rw [nD.out] at hv1 hat;subst hv1;have HAT:=acD hat;have HB1:=acD (HW.out.trans (hb1.mono HW.out.size));have uV:=acD (Below.blk hb1 dZ.out (aO dZ.out));clear ho1 hat hb1))
 go_loopw [10,11] (fun u i wr=>∃ j:Nat,j≤m∧i = .int .i64 j∧dX wr w1.heap.size u (pI key v xs j)∧Below w1.heap.size w1 wr) (fun _ i _=>m - (intOf i).toNat)
 case atStart=>exact ⟨0,Nat.zero_le _,rfl,dX.nil _ _,Below.refl _ _⟩
 case round =>
  obtain ⟨j,hj,rfl,hO,hB⟩:=hrel
  have hOf:=hO.form
  rw [vE] at hOf
  by_cases hlt:j < m
  ·obtain ⟨ad,g,ci,sq,rfl,x1,hg,hci, -⟩:=HAT.out j hlt
   have x0:=dI hB x1
   have hsi:=O3 (Below.blk hB hg (aO hg))
   have hch:=HCA.out j hlt
   rw [hch,mZ] at x0 hci hsi
   have h64:=mZ xs j
   have hsl:=zK key v xs j
   have hsx:=Kl key v xs j
   have MS:=fun sp cp w hs kc=>F3.out j (by omega) (chunk xs j) h64 sp cp w hs kc
   have hse:lV key (iH (j:Int)) (chunk xs j) (iV v)=mD key v xs j:=rfl
   rw [hse] at MS
   generalize chunk xs j=ck at *
   generalize mD key v xs j=sk at *
   have hln:=vE key v xs j
   generalize pI key v xs j=S0 at *
   have Cz:=acD MS
   have FU:=acD hsi
   have HCI:=acD (show 64≤ci by omega)
   have HSL:=acD hsl
   have HSX:=acD hsx
   have HO:=acD hO
   have oZ:=acD hB
   have GQ:=acD hln
   have HKR:=acD (Below.blk hB uV.out (aO uV.out))
   obtain ⟨va,vc,hv1, -⟩:=hOf
   subst hv1
   clear x1 hg hci hsi hch h64 hsl hsx MS hse hO hB hln
   go_upto_region 8 with fail
   have HB0:=acD (show Below wr.heap.size wr wr.drew from ⟨rfl,rfl,rfl,acF _,fun _ _=>rfl⟩)
   refine wp_region_held_drew (S:=(fun w'=>Go.RowKit.Below wr.heap.size wr w')) (by kernel_rfl) (HB0.out) (fun hHeld=>?_)
   refine' wpAnyH_take (i:=0) (oi:=(⟨some 29,_,_,_,_,none⟩:Oper)) (v:=_) rfl (by kernel_rfl) (by kernel_rfl) (by kernel_rfl) (fun _ _ _ h=>h) (yieldsIf_load_mid (by rfl) _ _ rfl _ _ rfl (key.map (Value.int .u8)) _ ?hS1001 Tryd.underlying23 rfl (by rw [acH,kU.out];exact rR)) (by assumption) ?rest1001
   case hS1001=>(intro w hSw;exact aN (Below.blk hSw HKR.out (aO HKR.out)) 0 _ (by rw [acH];exact au _ _))
   (try simp only [Act.put,sA,sZ,sS])
   refine wpAnyH_take (i:=1) (oi:=(⟨some 30,_,_,_,_,none⟩:Oper)) (v:=?v1002) rfl (by kernel_rfl) (by kernel_rfl) (by kernel_rfl) (fun _ _ _ h=>h) (Or.inl ⟨by rfl,?hy1002⟩) (by assumption) ?rest1002
   case hy1002=>(intro w hSw;(try dsimp only at hSw);go_simp;try (with_reducible rfl))
   (try simp only [Act.put,sA,sZ,sS])
   refine wpAnyH_take (i:=2) (oi:=(⟨some 31,_,_,_,_,none⟩:Oper)) (v:=?v1003) rfl (by kernel_rfl) (by kernel_rfl) (by kernel_rfl) (fun _ _ _ h=>h) (Or.inl ⟨by rfl,?hy1003⟩) (by assumption) ?rest1003
   case hy1003=>(intro w hSw;(try dsimp only at hSw);go_simp;try (with_reducible rfl))
   (try simp only [Act.put,sA,sZ,sS])
   refine wpAnyH_take (i:=3) (oi:=(⟨some 32,_,_,_,_,none⟩:Oper)) (v:=?v1004) rfl (by kernel_rfl) (by kernel_rfl) (by kernel_rfl) (fun _ _ _ h=>h) (Or.inl ⟨by rfl,?hy1004⟩) (by assumption) ?rest1004
   case hy1004=>(intro w hSw;(try dsimp only at hSw);go_simp;try (with_reducible rfl))
   (try simp only [Act.put,sA,sZ,sS])
   refine wpAnyH_take (i:=4) (oi:=(⟨some 33,_,_,_,_,none⟩:Oper)) (v:=?v1005) rfl (by kernel_rfl) (by kernel_rfl) (by kernel_rfl) (fun _ _ _ h=>h) (Or.inl ⟨by rfl,?hy1005⟩) (by assumption) ?rest1005
   case hy1005=>(intro w hSw;(try dsimp only at hSw);go_simp;try (with_reducible rfl))
   (try simp only [Act.put,sA,sZ,sS])
   refine wpAnyH_take (i:=5) (oi:=(⟨some 34,_,_,_,_,none⟩:Oper)) (v:=?v1006) rfl (by kernel_rfl) (by kernel_rfl) (by kernel_rfl) (fun _ _ _ h=>h) (Or.inl ⟨by rfl,?hy1006⟩) (by assumption) ?rest1006
   case hy1006=>(intro w hSw;(try dsimp only at hSw);go_simp;try (with_reducible rfl))
   (try simp only [Act.put,sA,sZ,sS])
   refine wpAnyH_take (i:=6) (oi:=(⟨some 35,_,_,_,_,none⟩:Oper)) (v:=(.slice (some ⟨g,0,none⟩) 64 ci)) rfl (by kernel_rfl) (by kernel_rfl) (by kernel_rfl) (fun _ _ _ h=>h) (Or.inl ⟨by rfl,?hy1007⟩) (by assumption) ?rest1007
   case hy1007=>(intro w hSw;(try dsimp only at hSw);have hx:=dI hSw x0;go_simp;try (with_reducible rfl))
   (try simp only [Act.put,sA,sZ,sS])
   refine wpAnyH_ready (rs:=[7]) (by kernel_rfl) (by simp) ?_
   refine AllReadyH.cons (o:=(⟨some 36,_,_,_,_,none⟩:Oper)) rfl (fun K hK=>?_) AllReadyH.nil
   go_simp
   go_at_call 44
   refine (Cz.out _ _ _ (FU.out.below hHeld) HCI.out).mono ?_
   rintro e U6 ⟨v5,rfl,ho5,Au⟩
   have Cm:=acD (HB0.out.trans (Au.mono HB0.out.size))
   obtain ⟨s5,c5,hv5, -⟩:=ho5.form
   rw [HSL.out] at hv5
   subst hv5
   have JY:=acD ((owns_of ho5 (by decide)).mono (B':=wr.heap.size) hHeld.size)
   clear ho5
   clear Au
   (try dsimp only)
   refine hK.out _ _ (Cm.out) (fun hHeld=>?_)
   clear hK K
   (try simp only [Act.put,sA,sZ,sS])
   refine wpAnyH_take (i:=8) (oi:=(⟨some 28,_,_,_,_,none⟩:Oper)) (v:=?v1009) rfl (by kernel_rfl) (by kernel_rfl) (by kernel_rfl) (fun _ _ _ h=>h) (Or.inl ⟨by rfl,?hy1009⟩) (by assumption) ?rest1009
   case hy1009=>(intro w hSw;(try dsimp only at hSw);go_simp;try (with_reducible rfl))
   (try simp only [Act.put,sA,sZ,sS])
   refine wpAnyH_take (i:=9) (oi:=(⟨some 37,_,_,_,_,none⟩:Oper)) (v:=?v1010) rfl (by kernel_rfl) (by kernel_rfl) (by kernel_rfl) (fun _ _ _ h=>h) (Or.inl ⟨by rfl,?hy1010⟩) (by assumption) ?rest1010
   case hy1010=>(intro w hSw;(try dsimp only at hSw);go_simp;try (with_reducible rfl))
   (try simp only [Act.put,sA,sZ,sS])
   refine wpAnyH_take (i:=10) (oi:=(⟨some 38,_,_,_,_,none⟩:Oper)) (v:=?v1011) rfl (by kernel_rfl) (by kernel_rfl) (by kernel_rfl) (fun _ _ _ h=>h) (Or.inl ⟨by rfl,?hy1011⟩) (by assumption) ?rest1011
   case hy1011=>(intro w hSw;(try dsimp only at hSw);go_simp;try (with_reducible rfl))
   (try simp only [Act.put,sA,sZ,sS])
   refine wpAnyH_take (i:=11) (oi:=(⟨some 12,_,_,_,_,none⟩:Oper)) (v:=?v1012) rfl (by kernel_rfl) (by kernel_rfl) (by kernel_rfl) (fun _ _ _ h=>h) (Or.inl ⟨by rfl,?hy1012⟩) (by assumption) ?rest1012
   case hy1012=>(intro w hSw;(try dsimp only at hSw);go_simp;try (with_reducible rfl))
   (try simp only [Act.put,sA,sZ,sS])
   refine wpAnyH_take (i:=12) (oi:=(⟨some 13,_,_,_,_,none⟩:Oper)) (v:=?v1013) rfl (by kernel_rfl) (by kernel_rfl) (by kernel_rfl) (fun _ _ _ h=>h) (Or.inl ⟨by rfl,?hy1013⟩) (by assumption) ?rest1013
   case hy1013=>(intro w hSw;(try dsimp only at hSw);go_simp;try (with_reducible rfl))
   (try simp only [Act.put,sA,sZ,sS])
   refine wpAnyH_done (by kernel_rfl) ?_ _
   have fM:=Cm
   (try simp only [Exit.then])
   go_wp2_with (first|((with_reducible refine aS 45 ?_);refine lU rfl (.tmp 42) (.tmp 44) rfl w1.heap.size _ _ S0 sk rfl rfl (HO.out.below fM.out) (JY.out.mono oZ.out.size) (by rw [GQ.out];omega) (acE oZ.out.size fM.out.size) ?_;intro v6 w6 yJ DR;have En:=acD yJ;have lN:=acD DR;clear yJ DR))
   go_roundw
   case rel=>exact ⟨j+1,by omega,by go_num,by rw [HSX.out];exact En.out,((oZ.out.trans (fM.out.mono oZ.out.size)).alloc (acE oZ.out.size fM.out.size) _).grown lN.out (acE oZ.out.size (acE fM.out.size (by simp))) (fun j e=>(dX.lt HO.out j e).1)⟩
   case measure=>simp [intOf];omega
  ·obtain rfl:j=m:=by omega
   have HO:=acD hO
   have oZ:=acD hB
   clear hO hB hOf
   go_wp2_with fail
   go_ret2
   exact ⟨_,rfl,HO.out.mono HB1.out.size,HB1.out.trans (oZ.out.mono HB1.out.size)⟩
end Go.Proofs.YthdgbgleklkaiaaDoor.Im
namespace Go.Proofs.YthdgbgleklkaiaaDoor.Mf
open Go.RowKit Lm Fp Cu Sl Sc Ce
theorem Tn (v b i:Int) (s:Option Addr) (n c:Nat) {ro ks gs:List Int} (h1:ro.length=32) (h2:ks.length=32) (h3:gs.length=64) (z:List Value) (hz:z.length=196) :
  Instr.fill (fun x => #[((0:Nat),1),(1,1),(2,32),(34,1),(35,97),(132,64)][x]?) z.toArray [(0, .int .i64 v),(1, .int .i64 b),(2, .agg (arr .u8 ro)),(3, .slice s n c),(4, .agg (dn i ks gs))]=some (([Value.int .i64 v,Value.int .i64 b]:List Value) ++ ro.map (Value.int .u8) ++ [Value.slice s n c] ++ (dn i ks gs).toList ++ z.drop 132).toArray:=by
 have hc:(dn i ks gs).size=97:=jJ h3 h2
 have a0:=qm (fun x => #[((0:Nat),1),(1,1),(2,32),(34,1),(35,97),(132,64)][x]?) [] z (.int .i64 v) 0 0 [(1, .int .i64 b),(2, .agg (arr .u8 ro)),(3, .slice s n c),(4, .agg (dn i ks gs))] rfl rfl (by simp [Value.cells,hz])
 have a1:=qm (fun x => #[((0:Nat),1),(1,1),(2,32),(34,1),(35,97),(132,64)][x]?) [.int .i64 v] (z.drop 1) (.int .i64 b) 1 1 [(2, .agg (arr .u8 ro)),(3, .slice s n c),(4, .agg (dn i ks gs))] rfl rfl (by simp [Value.cells,hz])
 have a2:=qm (fun x => #[((0:Nat),1),(1,1),(2,32),(34,1),(35,97),(132,64)][x]?) [.int .i64 v, .int .i64 b] (z.drop 2) (.agg (arr .u8 ro)) 2 2 [(3, .slice s n c),(4, .agg (dn i ks gs))] rfl (by simp [Value.cells,arr,h1]) (by simp [Value.cells,arr,h1,hz])
 have a3:=qm (fun x => #[((0:Nat),1),(1,1),(2,32),(34,1),(35,97),(132,64)][x]?) ([Value.int .i64 v,Value.int .i64 b] ++ ro.map (Value.int .u8)) (z.drop 34) (.slice s n c) 3 34 [(4, .agg (dn i ks gs))] (by simp [h1]) rfl (by simp [Value.cells,hz])
 have a4:=qm (fun x => #[((0:Nat),1),(1,1),(2,32),(34,1),(35,97),(132,64)][x]?) ([Value.int .i64 v,Value.int .i64 b] ++ ro.map (Value.int .u8) ++ [Value.slice s n c]) (z.drop 35) (.agg (dn i ks gs)) 4 35 [] (by simp [h1]) (by simp [Value.cells,hc]) (by simp [Value.cells,hc,hz])
 have e2:(z.drop 2).drop (Value.agg (arr .u8 ro)).cells.size=z.drop 34:=by simp [Value.cells,arr,h1]
 have e4:(z.drop 35).drop (Value.agg (dn i ks gs)).cells.size=z.drop 132:=by simp [Value.cells,hc]
 rw [acK] at a0
 rw [a0]
 refine a1.trans ?_
 refine Eq.trans ?_ (a2.trans ?_)
 ·simp [Value.cells]
 rw [e2]
 refine Eq.trans ?_ (a3.trans ?_)
 ·simp [Value.cells,arr]
 refine Eq.trans ?_ (a4.trans ?_)
 ·simp [Value.cells]
 rw [e4,Instr.fill]
 simp [Value.cells]
theorem Nh (v b i:Int) (s:Option Addr) (n c:Nat) {ro ks gs:List Int} (h1:ro.length=32) (h2:ks.length=32) (h3:gs.length=64) (w:World) :
  (Instr.build 30 #[(0, .int .i64 v),(1, .int .i64 b),(2, .agg (arr .u8 ro)),(3, .slice s n c),(4, .agg (dn i ks gs))]).run Tryd.prog w = .ok (.agg (aZ v b ro (.slice s n c) i ks gs z64)) w:=by
 unfold Instr.build
 simp only [Sem.run_bind,mI,Result.andThen_ok,run_underlying Tryd.underlying30]
 refine (congrArg (fun R=>Result.andThen R _) (show _=Result.ok #[((0:Nat),1),(1,1),(2,32),(34,1),(35,97),(132,64)] w from ?h)).trans ?_
 case h=>kernel_rfl
 simp only [Result.andThen_ok]
 have hm:iI.toList.length=196:=by rw [Array.length_toList];exact bK rfl rfl rfl rfl
 have hf:=Tn v b i s n c h1 h2 h3 iI.toList hm
 rw [show (Value.agg iI).cells=iI.toList.toArray by simp [Value.cells],hf]
 have hd:iI.toList.drop 132=z64.map (Value.int .u8):=by
  have:=uw (v:=0) (b:=0) (i:=0) (ro:=z32) (ks:=z32) (gs:=z64) (ss:=z64) (wv := .slice none 0 0) rfl rfl rfl
  rw [show iI.toList.drop 132=(iI.toList.drop 132).take z64.length from (acP (by rw [acI,hm];decide)).symm]
  exact this
 have e:([Value.int .i64 v, .int .i64 b] ++ ro.map (Value.int .u8) ++ [Value.slice s n c] ++ (dn i ks gs).toList ++ iI.toList.drop 132).toArray=aZ v b ro (.slice s n c) i ks gs z64:=by
  apply Array.ext'
  rw [hd,bP]
  simp [dn,arr]
 rw [e]
 rfl
end Go.Proofs.YthdgbgleklkaiaaDoor.Mf
namespace Go.Proofs.YthdgbgleklkaiaaDoor.Mf
open Go.RowKit
theorem vH (e:Int) (w:World):Calls Tryd.prog 8 #[.int .i64 e] w fun r w'=>r = .returned (.int .i64 e)∧w=w':=by
 go_enter Tryd.func8, Tryd.ntmps8
 go_wp2_with fail
 all_goals (try simp only [Exit.then])
 go_ret
 exact ⟨rfl,rfl⟩
end Go.Proofs.YthdgbgleklkaiaaDoor.Mf
namespace Go.Proofs.YthdgbgleklkaiaaDoor.Mf
open Go.RowKit Go.ChangeShapes Go.WideShapes Lm Fp Cu Sl Sc Ce
section
variable {H:Type} {enc:TypeId×Value→H} {w:World} {base:Nat} {held:Bool} {r:Reach} {b0:Nat} {v:Value} {d:DataW H} {p:List MemPlace}
theorem parts9 {α:Type} {L:List α} {a b c e f g h i:List α} (hl:L.length=196) (h0:(L.drop 0).take 1=a) (h1:(L.drop 1).take 1=b) (h2:(L.drop 2).take 32=c) (h3:(L.drop 34).take 1=e) (h4:(L.drop 35).take 1=f) (h5:(L.drop 36).take 32=g) (h6:(L.drop 68).take 64=h) (h7:(L.drop 132).take 64=i) :
  L=a ++ (b ++ (c ++ (e ++ (f ++ (g ++ (h ++ i)))))):=by
 have s (x n:Nat):L.drop x=(L.drop x).take n ++ L.drop (x+n):=by rw [← acR];exact (List.take_append_drop n _).symm
 have e7:L.drop 132=i:=by rw [← h7,acP (by rw [acI,hl];decide)]
 have e6:=s 68 64
 have e5:=s 36 32
 have e4:=s 35 1
 have e3:=s 34 1
 have e2:=s 2 32
 have e1:=s 1 1
 have e0:=s 0 1
 rw [h6,e7] at e6
 rw [h5,e6] at e5
 rw [h4,e5] at e4
 rw [h3,e4] at e3
 rw [h2,e3] at e2
 rw [h1,e2] at e1
 rw [h0,e1] at e0
 exact e0
theorem Wo (hv:Value.okWide Tryd.prog w r b0 30 v) (h:DataW.Trod enc Tryd.prog w base (fun _=>true) held 30 v d p) :
  ∃ (x b i:Int) (ro ks gs ss zs:List Int) (sw:Option Addr) (nw cw:Nat),v = .agg (aZ x b ro (.slice sw nw cw) i ks gs ss)∧Jw .u8 w sw nw cw zs∧(ro.length=32∧ks.length=32∧gs.length=64∧ss.length=64)∧(bytes ro∧bytes ks∧bytes gs∧bytes ss) ∧
   ((-9223372036854775808≤x∧x≤9223372036854775807)∧(-9223372036854775808≤b∧b≤9223372036854775807)∧(-9223372036854775808≤i∧i≤9223372036854775807)):=by
 obtain ⟨cs,rfl,hsz⟩:=okWide_struct Tryd.underlying30 hv
 obtain ⟨fuel,hf⟩:=h
 obtain ⟨hl,n,hx⟩:=flds Tryd.underlying30 hf
 obtain ⟨y0,h0⟩:=hx 0 3 0 1 (by kernel_rfl) (by kernel_rfl)
 obtain ⟨y1,h1⟩:=hx 1 3 1 1 (by kernel_rfl) (by kernel_rfl)
 obtain ⟨y2,h2⟩:=hx 2 23 2 32 (by kernel_rfl) (by kernel_rfl)
 obtain ⟨y3,h3⟩:=hx 3 24 34 1 (by kernel_rfl) (by kernel_rfl)
 obtain ⟨y4,h4⟩:=hx 4 28 35 97 (by kernel_rfl) (by kernel_rfl)
 obtain ⟨y5,h5⟩:=hx 5 26 132 64 (by kernel_rfl) (by kernel_rfl)
 obtain ⟨hl4,n4,hx4⟩:=flds Tryd.underlying28 h4
 obtain ⟨z0,g0⟩:=hx4 0 3 0 1 (by kernel_rfl) (by kernel_rfl)
 obtain ⟨z1,g1⟩:=hx4 1 23 1 32 (by kernel_rfl) (by kernel_rfl)
 obtain ⟨z2,g2⟩:=hx4 2 26 33 64 (by kernel_rfl) (by kernel_rfl)
 obtain ⟨x,e0,w0⟩:=FC Tryd.underlying3 h0
 obtain ⟨b,e1,w1⟩:=FC Tryd.underlying3 h1
 obtain ⟨ro,e2,l2,w2⟩:=yO Tryd.underlying23 Tryd.underlying5 (by kernel_rfl) (by kernel_rfl) h2
 obtain ⟨sw,nw,cw,zs,e3,w3⟩:=aaS Tryd.underlying24 Tryd.underlying5 (by kernel_rfl) h3
 obtain ⟨i,f0,v0⟩:=FC Tryd.underlying3 g0
 obtain ⟨ks,f1,l1,v1⟩:=yO Tryd.underlying23 Tryd.underlying5 (by kernel_rfl) (by kernel_rfl) g1
 obtain ⟨gs,f2,k2,v2⟩:=yO Tryd.underlying26 Tryd.underlying5 (by kernel_rfl) (by kernel_rfl) g2
 obtain ⟨ss,e5,l5,w5⟩:=yO Tryd.underlying26 Tryd.underlying5 (by kernel_rfl) (by kernel_rfl) h5
 have hc:(Value.agg cs).cells.toList=cs.toList:=rfl
 rw [hc] at e0 e1 e2 e3 f0 f1 f2 e5 hl
 have hl:cs.toList.length=196:=hl.trans (by kernel_rfl)
 refine ⟨x,b,i,ro,ks,gs,ss,zs,sw,nw,cw,?_,w3,⟨l2,l1,k2,l5⟩,⟨fun x hx=>wf_u8 (w2 x hx),fun x hx=>wf_u8 (v1 x hx),fun x hx=>wf_u8 (v2 x hx),fun x hx=>wf_u8 (w5 x hx)⟩,wf_i64 w0,wf_i64 w1,wf_i64 v0⟩
 congr 1
 apply Array.ext'
 have tk (a b c d:Nat) (h:b+d≤c):(((cs.toList.drop a).take c).drop b).take d=(cs.toList.drop (a+b)).take d:=by
  rw [List.drop_take,acR,List.take_take,Nat.min_eq_left (by omega)]
 rw [tk 35 0 97 1 (by decide)] at f0
 rw [tk 35 1 97 32 (by decide)] at f1
 rw [tk 35 33 97 64 (by decide)] at f2
 rw [bP,parts9 hl e0 e1 e2 e3 f0 f1 f2 e5]
 rfl
end
end Go.Proofs.YthdgbgleklkaiaaDoor.Mf
