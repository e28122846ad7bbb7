/- cert. Condition: as each theorem says. -/
import Derived.Test.YtodnkallpfkdiaaDoorMx
import Derived.Test.YtodnkallpfkdiaaDoorCc
import Derived.Test.YtodnkallpfkdiaaDoorCa
import Derived.Test.YtodnkallpfkdiaaDoorSy
import Derived.Test.YtodnkallpfkdiaaDoorRd
set_option maxRecDepth 100000
set_option maxHeartbeats 16000000
set_option linter.unusedSimpArgs false
set_option linter.unusedVariables false
namespace Go.Proofs.YtodnkallpfkdiaaDoor.Ce
open Go.RowKit
def okI (id:Int):Bool:=decide (0≤id) && decide (id≤2147483647)
theorem may_any (id:Int) (w:World):Calls Tryd.prog 53 #[.int .i64 id] w fun e w'=>e = .returned (.bool (okI id))∧w=w':=by
 go_enter Tryd.func53, Tryd.ntmps53
 go_wp2_with fail
 all_goals (try simp only [Exit.then])
 ·go_ret
  rename_i h
  refine ⟨?_,rfl⟩
  rw [okI,decide_eq_true h,Bool.true_and]
  rfl
 ·go_ret
  rename_i h
  refine ⟨?_,rfl⟩
  rw [okI,decide_eq_false (by omega),Bool.false_and]
  rfl
theorem body_any (s:ByteArray) (id:Int) (w:World) (hs:s.size≤1000000):Calls Tryd.prog 56 #[.string s, .int .i64 id] w fun e w'=>∃ v,e = .returned v∧Own8 w' w.heap.size v (packL (sbytes s) [id])∧Below w.heap.size w w':=by
 have hb1:=conv_str_below w s
 have hb2:Below w.heap.size w ((Lib.bytesWorld w 5 s).alloc (.cells #[.int .i64 id] 3)):=hb1.alloc hb1.size _
 have hm:=pint_any (some ⟨w.heap.size,0,none⟩) (some ⟨(Lib.bytesWorld w 5 s).heap.size,0,none⟩) s.size (grownCap w s.size 0 5) 1 1 (sbytes s) [id] ((Lib.bytesWorld w 5 s).alloc (.cells #[.int .i64 id] 3))
  ((conv_str_src w s).below ((Below.refl _ _).alloc (Nat.le_refl _) _)) (srcI_one _ id) (by omega) (by omega)
 have HM:=Lib.hid hm
 have HB:=Lib.hid hb2
 clear hm hb1 hb2
 have hcv:=fun w=>conv_str s w
 go_enter Tryd.func56, Tryd.ntmps56
 go_wp2_with ((with_reducible show Calls _ 47 _ _ _);go_at_call 47; refine HM.out.mono ?_;rintro e w2 ⟨v,rfl,ho,hb⟩;have HO:=Lib.hid ho;have HE:=Lib.hid hb;clear ho hb)
 all_goals (try simp only [Exit.then])
 go_ret
 exact ⟨_,rfl,HO.out.mono HB.out.size,HB.out.trans (HE.out.mono HB.out.size)⟩
end Go.Proofs.YtodnkallpfkdiaaDoor.Ce
namespace Go.Proofs.YtodnkallpfkdiaaDoor.Ce
open Go.RowKit Lm Fp Cu Sl Sc
def PCCT:ByteArray:=⟨#[80,67,67,84]⟩
def PCST:ByteArray:=⟨#[80,67,83,84]⟩
/-- What a certificate's signature is of, what a stop's is of. -/
def stopT (id:Int):List Int:=packL [80,67,83,84] [id]
def certT (id:Int) (key:Nat):List Int:=packL [80,67,67,84] [id] ++ n32 key
/-- Does a signature gs of a text hold under a key? -/
def ver (key:Nat) (gs t:List Int):Bool:=everify key (hnum (gs.take 32)) (hnum (gs.drop 32)) t
theorem stopT_len (id:Int):(stopT id).length=12:=by rw [stopT,packL_len];rfl
theorem certT_len (id:Int) (key:Nat):(certT id key).length=44:=by rw [certT,List.length_append,packL_len,n32_len];rfl
theorem packL_bytes {bs ns:List Int} (h:bytes bs):bytes (packL bs ns):=by
 intro x hx
 simp only [packL,List.mem_append,List.mem_flatMap] at hx
 rcases hx with hx|⟨n,_,hx⟩
 ·exact h x hx
 ·exact be8_bytes n x hx
theorem stopT_bytes (id:Int):bytes (stopT id):=packL_bytes (by unfold bytes;decide)
theorem certT_bytes (id:Int) (key:Nat):bytes (certT id key):=bytes_app (packL_bytes (by unfold bytes;decide)) (n32_bytes key)
theorem ver_sign (key s:Nat) (t u:List Int):ver key (esign s t) u=everify key (esignR s t) (esignS s t) u:=by rw [ver,esign_R,esign_S]
/-- The certificate that alive makes. -/
theorem alive16a:(let k:=epub 2;let t:=certT 7 k;let r:=esignR 1 t;let s:=esignS 1 t;(eread k).isSome && everify (epub 1) r s t && !everify k r s t)=true:=by decide +kernel
theorem alive16b:(eread (epub 2)).isSome=true∧ver (epub 1) (esign 1 (certT 7 (epub 2))) (certT 7 (epub 2))=true∧ver (epub 2) (esign 1 (certT 7 (epub 2))) (certT 7 (epub 2))=false:=by
 have h:=alive16a
 simp only [Bool.and_eq_true,Bool.not_eq_true'] at h
 rw [ver_sign,ver_sign]
 exact ⟨h.1.1,h.1.2,h.2⟩
end Go.Proofs.YtodnkallpfkdiaaDoor.Ce
namespace Go.Proofs.YtodnkallpfkdiaaDoor.Ce
open Go.RowKit Lm Fp Cu Sl Sc
theorem sbytes_cct:sbytes PCCT=[80,67,67,84]:=rfl
theorem sbytes_cst:sbytes PCST=[80,67,83,84]:=rfl
theorem rowS:RowT Tryd.prog 26 64:=⟨⟨_, Tryd.underlying26, rfl⟩,by kernel_rfl⟩
/-- Bytes lie behind the slice v. -/
def isB (xs:List Int) (u:World) (v:Value):Prop:=∃ s c,v = .slice s xs.length c∧xs.length≤c∧Src u s xs.length xs
theorem isB.below {xs:List Int} (u u':World) (v:Value) (k:Below u.heap.size u u') (h:isB xs u v):isB xs u' v:=by
 obtain ⟨s,c,e,h1,h2⟩:=h
 exact ⟨s,c,e,h1,h2.below k⟩
theorem isB.own {xs:List Int} {u:World} {B:Nat} {v:Value} (h:Own8 u B v xs):isB xs u v:=by
 obtain ⟨s,c,e,h1,_,h2,_⟩:=h.form
 exact ⟨s,c,e,h1,h2⟩
/-- Lists of bytes lie behind the slice v. -/
def isL (L:List (List Int)) (u:World) (v:Value):Prop:=∃ g,v = .slice (some ⟨g,0,none⟩) L.length L.length∧SrcL u (some ⟨g,0,none⟩) L.length L
theorem isL.below {L:List (List Int)} (u u':World) (v:Value) (k:Below u.heap.size u u') (h:isL L u v):isL L u' v:=by
 obtain ⟨g,e,h1⟩:=h
 exact ⟨g,e,h1.below k⟩
theorem isL_two {u:World} {t:TypeId} {v:Value} {g n c:Nat} {x y:List Int} (h:isB x u v) (hy:Src u (some ⟨g,n,none⟩) y.length y) (hc:y.length≤c):isL [x,y] (u.alloc (.cells #[v, .slice (some ⟨g,n,none⟩) y.length c] t)) (.slice (some ⟨u.heap.size,0,none⟩) 2 2):=by
 obtain ⟨s,c',rfl,h1,h2⟩:=h
 have hb:Below u.heap.size u (u.alloc (.cells #[.slice s x.length c', .slice (some ⟨g,n,none⟩) y.length c] t)):=(Below.refl _ u).alloc (Nat.le_refl _) _
 exact ⟨_,rfl,src_two (blk_new u _) (h2.below hb) (hy.below hb) h1 hc⟩
theorem isL_one {u:World} {v:Value} {x:List Int} (h:isB x u v):isL [x] (u.alloc (.cells #[v] 24)) (.slice (some ⟨u.heap.size,0,none⟩) 1 1):=by
 obtain ⟨s,c',rfl,h1,h2⟩:=h
 exact ⟨_,rfl,csrcL_one h2 h1⟩
/-- A certificate's cells. -/
def certC (id:Int) (ks gs:List Int):Array Value := #[.int .i64 id] ++ arr .u8 ks ++ arr .u8 gs
theorem certC_key (id:Int) (ks gs:List Int):((certC id ks gs).toList.drop 1).take ks.length=ks.map (Value.int .u8):=by
 simp [certC,arr]
theorem certC_sig (id:Int) (ks gs:List Int) (h:ks.length=32):((certC id ks gs).toList.drop 33).take gs.length=gs.map (Value.int .u8):=by
 simp only [certC,arr,Array.toList_append,List.drop_append,List.length_append]
 simp [h,List.drop_of_length_le,List.take_of_length_le]
theorem certC_id (id:Int) (ks gs:List Int):(certC id ks gs)[0]? = some (.int .i64 id):=by simp [certC,arr]
theorem certC_ks {id:Int} {ks gs:List Int} {i:Nat} (h:i < ks.length):(certC id ks gs)[1+i]? = some (.int .u8 (ks.getD i 0)):=by
 rw [certC,Array.append_assoc,Array.getElem?_append_right (by simp)]
 simp [arr,List.getD,h,List.getElem?_append]
theorem check_any {rs ks gs:List Int} (root key:Nat) (id:Int) (w:World) (hr:K32 rs root) (hk:K32 ks key) (hg:gs.length=64) (hgb:bytes gs) :
  Calls Tryd.prog 26 #[.agg (arr .u8 rs), .agg (certC id ks gs)] w fun e w'=>e = .returned (.bool (okI id && ver root gs (certT id key)))∧Below w.heap.size w w':=by
 have hflat:([packL [80,67,67,84] [id],ks]:List (List Int)).flatten=certT id key:=by rw [certT,n32,← hk.1];simp
 have hver:=fun (u:World) (g:Nat) (h:SrcL u (some ⟨g,0,none⟩) 2 [packL [80,67,67,84] [id],ks])=>cverify_any root (some ⟨g,0,none⟩) 2 2 _ u hr hg hgb h (by
  intro l hl
  simp only [List.mem_cons,List.not_mem_nil,or_false] at hl
  rcases hl with rfl|rfl
  ·exact packL_bytes (by unfold bytes;decide)
  ·rw [hk.1];exact n32_bytes key) (by rw [hflat,certT_len];decide) (by decide)
 rw [hflat] at hver
 have hbody:=fun u=>body_any PCCT id u (by decide)
 rw [sbytes_cct] at hbody
 obtain ⟨ev,hev⟩:∃ b,b=ver root gs (certT id key):=⟨_,rfl⟩
 have hver:∀ (u:World) (v:Value),isL [packL [80,67,67,84] [id],ks] u v→Calls Tryd.prog 59 #[.agg (arr .u8 rs), .agg (arr .u8 gs),v] u fun e w'=>e = .returned (.bool ev)∧Below u.heap.size u w':=by
  intro u v h
  obtain ⟨g,rfl,h⟩:=h
  rw [hev]
  exact hver u g h
 obtain ⟨B,hB⟩:∃ b,b=packL [80,67,67,84] [id]:=⟨_,rfl⟩
 have hlB:B.length=12:=by rw [hB,packL_len];rfl
 rw [← hB] at hver hbody
 rw [← hev]
 obtain ⟨CC,hCC⟩:∃ c,c=certC id ks gs:=⟨_,rfl⟩
 have hc0:=certC_id id ks gs
 have hc2:=certC_sig id ks gs hk.len
 have hcs:=fun i (h:i < ks.length)=>certC_ks (id:=id) (gs:=gs) h
 rw [← hCC] at hc0 hc2 hcs ⊢
 have HV:=Lib.hid hver
 have HBO:=Lib.hid hbody
 have HC0:=Lib.hid hc0
 have HC2:=Lib.hid hc2
 have HCS:=Lib.hid hcs
 have HRL:=Lib.hid hr.len
 have HKL:=Lib.hid hk.len
 have HGL:=Lib.hid hg
 have HLB:=Lib.hid hlB
 have HS0:=Lib.hid (Blk.two w (arr .u8 rs) CC 23 28)
 clear hver hbody hc0 hc2 hcs hr hk hg hgb hB hlB hCC hflat hev
 go_enter Tryd.func26, Tryd.ntmps26
 go_upto_region 1 with fail
 (try simp only [World.size_alloc,Act.put,sA,sZ,sS])
 generalize ((w.alloc (.cells (arr .u8 rs) 23)).alloc (.cells CC 28))=wb at HS0 ⊢
 cases hok:okI id with
 | true =>
  refine wp_region_sym (T:=fun _=>False) (w:=w) (sy:=[Yp (w.heap.size+1) 0,Yv (.int .i64 id),Yv (.bool true),Yv (.bool true),Yr .u8 rs,Yp (w.heap.size+1) 33,Yr .u8 gs,Yp (w.heap.size+1) 0,Yv (.int .i64 id),Yw (isB B) isB.below,Yp (w.heap.size+1) 1,Yv (.slice (some ⟨w.heap.size+1,1,none⟩) 32 32),Yw (isL [B,ks]) isL.below,Yv (.bool ev),Yv (.bool ev),Yv (.bool ev)]) (pt:=[]) (by kernel_rfl) (by kernel_rfl) (by kernel_rfl) HS0.out.holds (fun hW=>?s1) (fun q1 x1 u1 _ hH=>?e1)
  case s1 =>
   refine SyP hW ?_
   refine SyL1 hW ?_ 1 0 CC 28 HC0.out (d:=_) rfl Tryd.underlying3
   refine SyD hW ?_ (fun u _=>(may_any id u).mono (by rintro e w' ⟨rfl,rfl⟩;exact ⟨by rw [hok],Below.refl _ _⟩))
   refine SyP hW ?_
   refine SyU (SyL hW ?_ 0 0 (arr .u8 rs) 23 rowN HRL.out (arr_part _ _))
   refine SyU (SyP hW ?_)
   refine SyU (SyL hW ?_ 1 33 CC 28 rowS HGL.out HC2.out)
   refine SyU (SyP hW ?_)
   refine SyU (SyL1 hW ?_ 1 0 CC 28 HC0.out (d:=_) rfl Tryd.underlying3)
   refine SyU (SyCw hW ?_ (fun u _=>(HBO.out u).mono (by rintro e w' ⟨v,rfl,ho,hb⟩;exact ⟨v,rfl,isB.own ho,hb⟩)))
   refine SyU (SyP hW ?_)
   refine SyU (SyP hW ?_)
   refine SyU (SyMw hW ?_ 9 (.tmp 14) [.tmp 16] [.slice (some ⟨w.heap.size+1,1,none⟩) 32 32] (fun v => #[v, .slice (some ⟨w.heap.size+1,1,none⟩) 32 32]) 24 (fun u v k hb h=>?m1) (fun ρ u h e=>?m2))
   case m1 =>
    obtain ⟨ob,hob,hp⟩:=hb 1 (cel CC 28) (by simp [oldOf]) (by kernel_rfl)
    have hob:u.heap[w.heap.size+1]? = some ob:=hob
    have hp:ob = .cells CC 28 (0,0):=hp
    subst hp
    have hs:Src u (some ⟨w.heap.size+1,1,none⟩) ks.length ks:=by
     refine ⟨rfl,fun i hi=>⟨_,rfl,?_⟩⟩
     rw [show (⟨w.heap.size+1,1,none⟩:Addr).add i=⟨w.heap.size+1,1+i,none⟩ by unfold Addr.add;split <;> simp_all,cell_blk hob,HCS.out i hi]
    have h2:=isL_two (t := 24) (c:=32) h hs (by rw [HKL.out];decide)
    rw [HKL.out] at h2
    exact h2
   case m2 =>
    have e:ρ (.tmp 16) = .slice (some ⟨w.heap.size+1,1,none⟩) 32 32:=by simpa using e
    obtain ⟨s,c,hv, -, -⟩:=h
    simp only [execOp,List.map_toArray,List.map_cons,List.map_nil,e,hv]
    show Sem.run _ _ _=_
    first|rfl|kernel_rfl
   refine SyU (SyCv hW ?_ (xs:=[.tmp 9, .tmp 11]) (vs:=[.agg (arr .u8 rs), .agg (arr .u8 gs)]) 12 (fun u v _ h=>HV.out u v h))
   refine SyP hW ?_
   refine SyP hW ?_
   exact SyN
  case e1 =>
   have HB1:=Lib.hid (hH.blk [0,1] [(w.heap.size,arr .u8 rs, 23),(w.heap.size+1,CC, 28)] (by decide) (by kernel_rfl))
   simp only [lay,Sy.at,den',Yr,Yv,Yp,Yq,Yn,Y0,Yw,Act.put,sA,sZ,sS,Nat.reduceAdd]
   clear hH HS0
   (try simp only [Exit.then])
   go_wp2_with fail
   go_ret
   exact ⟨by simp [hok],HB1.out.below⟩
 | false =>
  refine wp_region_sym (T:=fun _=>False) (w:=w) (sy:=[Yp (w.heap.size+1) 0,Yv (.int .i64 id),Yv (.bool false),Yv (.bool false),Yv undef,Yv undef,Yv undef,Yv undef,Yv undef,Yv undef,Yv undef,Yv undef,Yv undef,Yv undef,Yv (.bool false),Yv (.bool false)]) (pt:=[]) (by kernel_rfl) (by kernel_rfl) (by kernel_rfl) HS0.out.holds (fun hW=>?s2) (fun q2 x2 u2 _ hH=>?e2)
  case s2 =>
   refine SyP hW ?_
   refine SyL1 hW ?_ 1 0 CC 28 HC0.out (d:=_) rfl Tryd.underlying3
   refine SyD hW ?_ (fun u _=>(may_any id u).mono (by rintro e w' ⟨rfl,rfl⟩;exact ⟨by rw [hok],Below.refl _ _⟩))
   refine SyP hW ?_
   iterate 10 refine SyK hW ?_
   refine SyP hW ?_
   refine SyP hW ?_
   exact SyN
  case e2 =>
   have HB1:=Lib.hid (hH.blk [0,1] [(w.heap.size,arr .u8 rs, 23),(w.heap.size+1,CC, 28)] (by decide) (by kernel_rfl))
   simp only [lay,Sy.at,den',Yr,Yv,Yp,Yq,Yn,Y0,Act.put,sA,sZ,sS,Nat.reduceAdd]
   clear hH HS0
   (try simp only [Exit.then])
   go_wp2_with fail
   go_ret
   exact ⟨by simp [hok],HB1.out.below⟩
end Go.Proofs.YtodnkallpfkdiaaDoor.Ce
namespace Go.Proofs.YtodnkallpfkdiaaDoor.Ce
open Go.RowKit Lm Fp Cu Sl Sc
/-- A stop's cells. -/
def stopC (id:Int) (gs:List Int):Array Value := #[.int .i64 id] ++ arr .u8 gs
theorem stopC_sig (id:Int) (gs:List Int):((stopC id gs).toList.drop 1).take gs.length=gs.map (Value.int .u8):=by simp [stopC,arr,List.take_of_length_le]
theorem stopC_id (id:Int) (gs:List Int):(stopC id gs)[0]? = some (.int .i64 id):=by simp [stopC,arr]
theorem checkStop_any {rs gs:List Int} (root:Nat) (id:Int) (w:World) (hr:K32 rs root) (hg:gs.length=64) (hgb:bytes gs) :
  Calls Tryd.prog 29 #[.agg (arr .u8 rs), .agg (stopC id gs)] w fun e w'=>e = .returned (.bool (okI id && ver root gs (stopT id)))∧Below w.heap.size w w':=by
 have hflat:([packL [80,67,83,84] [id]]:List (List Int)).flatten=stopT id:=by rw [stopT];simp
 have hver:=fun (u:World) (g:Nat) (h:SrcL u (some ⟨g,0,none⟩) 1 [packL [80,67,83,84] [id]])=>cverify_any root (some ⟨g,0,none⟩) 1 1 _ u hr hg hgb h (by
  intro l hl
  simp only [List.mem_singleton] at hl
  subst hl
  exact packL_bytes (by unfold bytes;decide)) (by rw [hflat,stopT_len];decide) (by decide)
 rw [hflat] at hver
 have hbody:=fun u=>body_any PCST id u (by decide)
 rw [sbytes_cst] at hbody
 obtain ⟨ev,hev⟩:∃ b,b=ver root gs (stopT id):=⟨_,rfl⟩
 have hver:∀ (u:World) (v:Value),isL [packL [80,67,83,84] [id]] u v→Calls Tryd.prog 59 #[.agg (arr .u8 rs), .agg (arr .u8 gs),v] u fun e w'=>e = .returned (.bool ev)∧Below u.heap.size u w':=by
  intro u v h
  obtain ⟨g,rfl,h⟩:=h
  rw [hev]
  exact hver u g h
 obtain ⟨B,hB⟩:∃ b,b=packL [80,67,83,84] [id]:=⟨_,rfl⟩
 have hlB:B.length=12:=by rw [hB,packL_len];rfl
 rw [← hB] at hver hbody
 rw [← hev]
 obtain ⟨CC,hCC⟩:∃ c,c=stopC id gs:=⟨_,rfl⟩
 have hc0:=stopC_id id gs
 have hc2:=stopC_sig id gs
 rw [← hCC] at hc0 hc2 ⊢
 have HV:=Lib.hid hver
 have HBO:=Lib.hid hbody
 have HC0:=Lib.hid hc0
 have HC2:=Lib.hid hc2
 have HRL:=Lib.hid hr.len
 have HGL:=Lib.hid hg
 have HLB:=Lib.hid hlB
 have HS0:=Lib.hid (Blk.two w (arr .u8 rs) CC 23 52)
 clear hver hbody hc0 hc2 hr hg hgb hB hlB hCC hflat hev
 go_enter Tryd.func29, Tryd.ntmps29
 go_upto_region 1 with fail
 (try simp only [World.size_alloc,Act.put,sA,sZ,sS])
 generalize ((w.alloc (.cells (arr .u8 rs) 23)).alloc (.cells CC 52))=wb at HS0 ⊢
 cases hok:okI id with
 | true =>
  refine wp_region_sym (T:=fun _=>False) (w:=w) (sy:=[Yp (w.heap.size+1) 0,Yv (.int .i64 id),Yv (.bool true),Yv (.bool true),Yr .u8 rs,Yp (w.heap.size+1) 1,Yr .u8 gs,Yp (w.heap.size+1) 0,Yv (.int .i64 id),Yw (isB B) isB.below,Yw (isL [B]) isL.below,Yv (.bool ev),Yv (.bool ev),Yv (.bool ev)]) (pt:=[]) (by kernel_rfl) (by kernel_rfl) (by kernel_rfl) HS0.out.holds (fun hW=>?s1) (fun q1 x1 u1 _ hH=>?e1)
  case s1 =>
   refine SyP hW ?_
   refine SyL1 hW ?_ 1 0 CC 52 HC0.out (d:=_) rfl Tryd.underlying3
   refine SyD hW ?_ (fun u _=>(may_any id u).mono (by rintro e w' ⟨rfl,rfl⟩;exact ⟨by rw [hok],Below.refl _ _⟩))
   refine SyP hW ?_
   refine SyU (SyL hW ?_ 0 0 (arr .u8 rs) 23 rowN HRL.out (arr_part _ _))
   refine SyU (SyP hW ?_)
   refine SyU (SyL hW ?_ 1 1 CC 52 rowS HGL.out HC2.out)
   refine SyU (SyP hW ?_)
   refine SyU (SyL1 hW ?_ 1 0 CC 52 HC0.out (d:=_) rfl Tryd.underlying3)
   refine SyU (SyCw hW ?_ (fun u _=>(HBO.out u).mono (by rintro e w' ⟨v,rfl,ho,hb⟩;exact ⟨v,rfl,isB.own ho,hb⟩)))
   refine SyU (SyMw hW ?_ 9 (.tmp 14) [] [] (fun v => #[v]) 24 (fun u v k _ h=>isL_one h) (fun ρ u h e=>?m2))
   case m2 =>
    obtain ⟨s,c,hv, -, -⟩:=h
    simp only [execOp,List.map_toArray,List.map_cons,List.map_nil,hv]
    show Sem.run _ _ _=_
    first|rfl|kernel_rfl
   refine SyU (SyCv hW ?_ (xs:=[.tmp 9, .tmp 11]) (vs:=[.agg (arr .u8 rs), .agg (arr .u8 gs)]) 10 (fun u v _ h=>HV.out u v h))
   refine SyP hW ?_
   refine SyP hW ?_
   exact SyN
  case e1 =>
   have HB1:=Lib.hid (hH.blk [0,1] [(w.heap.size,arr .u8 rs, 23),(w.heap.size+1,CC, 52)] (by decide) (by kernel_rfl))
   simp only [lay,Sy.at,den',Yr,Yv,Yp,Yq,Yn,Y0,Yw,Act.put,sA,sZ,sS,Nat.reduceAdd]
   clear hH HS0
   (try simp only [Exit.then])
   go_wp2_with fail
   go_ret
   exact ⟨by simp [hok],HB1.out.below⟩
 | false =>
  refine wp_region_sym (T:=fun _=>False) (w:=w) (sy:=[Yp (w.heap.size+1) 0,Yv (.int .i64 id),Yv (.bool false),Yv (.bool false),Yv undef,Yv undef,Yv undef,Yv undef,Yv undef,Yv undef,Yv undef,Yv undef,Yv (.bool false),Yv (.bool false)]) (pt:=[]) (by kernel_rfl) (by kernel_rfl) (by kernel_rfl) HS0.out.holds (fun hW=>?s2) (fun q2 x2 u2 _ hH=>?e2)
  case s2 =>
   refine SyP hW ?_
   refine SyL1 hW ?_ 1 0 CC 52 HC0.out (d:=_) rfl Tryd.underlying3
   refine SyD hW ?_ (fun u _=>(may_any id u).mono (by rintro e w' ⟨rfl,rfl⟩;exact ⟨by rw [hok],Below.refl _ _⟩))
   refine SyP hW ?_
   iterate 8 refine SyK hW ?_
   refine SyP hW ?_
   refine SyP hW ?_
   exact SyN
  case e2 =>
   have HB1:=Lib.hid (hH.blk [0,1] [(w.heap.size,arr .u8 rs, 23),(w.heap.size+1,CC, 52)] (by decide) (by kernel_rfl))
   simp only [lay,Sy.at,den',Yr,Yv,Yp,Yq,Yn,Y0,Act.put,sA,sZ,sS,Nat.reduceAdd]
   clear hH HS0
   (try simp only [Exit.then])
   go_wp2_with fail
   go_ret
   exact ⟨by simp [hok],HB1.out.below⟩
end Go.Proofs.YtodnkallpfkdiaaDoor.Ce
namespace Go.Proofs.YtodnkallpfkdiaaDoor.Ce
open Go.RowKit Lm Fp Cu Sl Sc
/-- A part of a structure, laid behind what is laid. -/
theorem fill_v (place:Nat→Option (Nat×Nat)) (X Y:List Value) (v:Value) (i off:Nat) (rest:List (Nat×Value)) (ho:off=X.length) (hp:place i=some (off,v.cells.size)) (hY:v.cells.size≤Y.length) :
  Instr.fill place (X ++ Y).toArray ((i,v) :: rest)=Instr.fill place (X ++ v.cells.toList ++ Y.drop v.cells.size).toArray rest:=by
 subst ho
 rw [fill_cons _ _ _ _ _ X.length hp (by simp;omega)]
 congr 1
 simp only
 congr 1
 have e1:List.take X.length (X ++ Y)=X:=List.take_left' rfl
 have e2:List.drop (X.length+v.cells.size) (X ++ Y)=Y.drop v.cells.size:=by
  rw [List.drop_append,List.drop_eq_nil_of_le (by simp),Nat.add_sub_cancel_left,List.nil_append]
 rw [e1,e2]
theorem zero_stop (w:World):(zeroValue 52).run Tryd.prog w = .ok (.agg (stopC 0 (List.replicate 64 0))) w:=by kernel_rfl
theorem zero_cert (w:World):(zeroValue 28).run Tryd.prog w = .ok (.agg (certC 0 (List.replicate 32 0) (List.replicate 64 0))) w:=by kernel_rfl
theorem size_stop:(Tryd.prog.info? 52).map (·.size)=some 65:=by kernel_rfl
theorem size_cert:(Tryd.prog.info? 28).map (·.size)=some 97:=by kernel_rfl
theorem stopC_size {id:Int} {gs:List Int} (h:gs.length=64):(stopC id gs).size=65:=by simp [stopC,arr,h]
theorem certC_size {id:Int} {ks gs:List Int} (h:gs.length=64) (hk:ks.length=32):(certC id ks gs).size=97:=by simp [certC,arr,h,hk]
theorem build_stop0 (w:World):(Instr.build 52 #[]).run Tryd.prog w = .ok (.agg (stopC 0 (List.replicate 64 0))) w:=by kernel_rfl
theorem build_cert0 (w:World):(Instr.build 28 #[]).run Tryd.prog w = .ok (.agg (certC 0 (List.replicate 32 0) (List.replicate 64 0))) w:=by kernel_rfl
theorem fill_stop (id:Int) (gs:List Int) (h:gs.length=64) (z:List Value) (hz:z.length=65):Instr.fill (fun x => #[((0:Nat),1),(1,64)][x]?) z.toArray [(0, .int .i64 id),(1, .agg (arr .u8 gs))]=some (stopC id gs):=by
 have h0:=fill_v (fun x => #[((0:Nat),1),(1,64)][x]?) [] z (.int .i64 id) 0 0 [(1, .agg (arr .u8 gs))] rfl rfl (by simp [Value.cells,hz])
 have h1:=fill_v (fun x => #[((0:Nat),1),(1,64)][x]?) [.int .i64 id] (z.drop 1) (.agg (arr .u8 gs)) 1 1 [] rfl (by simp [Value.cells,arr,h]) (by simp [Value.cells,arr,h,hz])
 rw [List.nil_append] at h0
 rw [h0]
 refine h1.trans ?_
 rw [Instr.fill]
 have e:(z.drop 1).drop (Value.agg (arr .u8 gs)).cells.size=[]:=List.drop_eq_nil_of_le (by simp [Value.cells,arr,h,hz])
 rw [e]
 simp [stopC,Value.cells]
theorem build_stop (id:Int) (gs:List Int) (h:gs.length=64) (w:World):(Instr.build 52 #[(0, .int .i64 id),(1, .agg (arr .u8 gs))]).run Tryd.prog w = .ok (.agg (stopC id gs)) w:=by
 unfold Instr.build
 simp only [Sem.run_bind,zero_stop,Result.andThen_ok,run_underlying Tryd.underlying52]
 refine (congrArg (fun R=>Result.andThen R _) (show _=Result.ok #[((0:Nat),1),(1,64)] w from ?h)).trans ?_
 case h=>kernel_rfl
 simp only [Result.andThen_ok]
 have hf:=fill_stop id gs h (stopC 0 (List.replicate 64 0)).toList (by simp [stopC,arr])
 rw [show (Value.agg (stopC 0 (List.replicate 64 0))).cells=(stopC 0 (List.replicate 64 0)).toList.toArray by simp [Value.cells],hf]
 rfl
theorem fill_cert (id:Int) (ks gs:List Int) (hk:ks.length=32) (h:gs.length=64) (z:List Value) (hz:z.length=97):Instr.fill (fun x => #[((0:Nat),1),(1,32),(33,64)][x]?) z.toArray [(0, .int .i64 id),(1, .agg (arr .u8 ks)),(2, .agg (arr .u8 gs))]=some (certC id ks gs):=by
 have h0:=fill_v (fun x => #[((0:Nat),1),(1,32),(33,64)][x]?) [] z (.int .i64 id) 0 0 [(1, .agg (arr .u8 ks)),(2, .agg (arr .u8 gs))] rfl rfl (by simp [Value.cells,hz])
 have h1:=fill_v (fun x => #[((0:Nat),1),(1,32),(33,64)][x]?) [.int .i64 id] (z.drop 1) (.agg (arr .u8 ks)) 1 1 [(2, .agg (arr .u8 gs))] rfl (by simp [Value.cells,arr,hk]) (by simp [Value.cells,arr,hk,hz])
 have h2:=fill_v (fun x => #[((0:Nat),1),(1,32),(33,64)][x]?) ([.int .i64 id] ++ (arr .u8 ks).toList) ((z.drop 1).drop 32) (.agg (arr .u8 gs)) 2 33 [] (by simp [arr,hk]) (by simp [Value.cells,arr,h]) (by simp [Value.cells,arr,h,hz])
 have ek:(Value.agg (arr .u8 ks)).cells.size=32:=by simp [Value.cells,arr,hk]
 rw [List.nil_append] at h0
 rw [ek] at h1
 rw [h0]
 refine h1.trans (h2.trans ?_)
 rw [Instr.fill]
 have e:((z.drop 1).drop 32).drop (Value.agg (arr .u8 gs)).cells.size=[]:=List.drop_eq_nil_of_le (by simp [Value.cells,arr,h,hz])
 rw [e]
 simp [certC,Value.cells]
theorem build_cert (id:Int) (ks gs:List Int) (hk:ks.length=32) (h:gs.length=64) (w:World):(Instr.build 28 #[(0, .int .i64 id),(1, .agg (arr .u8 ks)),(2, .agg (arr .u8 gs))]).run Tryd.prog w = .ok (.agg (certC id ks gs)) w:=by
 unfold Instr.build
 simp only [Sem.run_bind,zero_cert,Result.andThen_ok,run_underlying Tryd.underlying28]
 refine (congrArg (fun R=>Result.andThen R _) (show _=Result.ok #[((0:Nat),1),(1,32),(33,64)] w from ?h)).trans ?_
 case h=>kernel_rfl
 simp only [Result.andThen_ok]
 have hf:=fill_cert id ks gs hk h (certC 0 (List.replicate 32 0) (List.replicate 64 0)).toList (by simp [certC,arr])
 rw [show (Value.agg (certC 0 (List.replicate 32 0) (List.replicate 64 0))).cells=(certC 0 (List.replicate 32 0) (List.replicate 64 0)).toList.toArray by simp [Value.cells],hf]
 rfl
end Go.Proofs.YtodnkallpfkdiaaDoor.Ce
namespace Go.Proofs.YtodnkallpfkdiaaDoor.Ce
open Go.RowKit Lm Fp Cu Sl Sc
theorem one_arr {k:IntKind} (l:List Int):(arr k l).all (·.oneCell')=true:=all_arr _ _
theorem stopC_one (id:Int) (gs:List Int):(stopC id gs).all (·.oneCell')=true:=by
 rw [stopC,Array.all_append,one_arr]
 simp [Value.oneCell']
/-- The stop that there is, and the error. -/
def stopV (root:Nat) (id:Int):Value:=if okI id=true then .tuple #[.agg (stopC id (esign root (stopT id))), .int .i64 0] else .tuple #[.agg (stopC 0 (List.replicate 64 0)), .int .i64 1]
theorem stop_any {rs:List Int} (root:Nat) (id:Int) (w:World) (hr:K32 rs root) :
  Calls Tryd.prog 36 #[.agg (arr .u8 rs), .int .i64 id] w fun e w'=>e = .returned (stopV root id)∧Below w.heap.size w w':=by
 have hsg:=fun (u:World) (g:Nat) (h:SrcL u (some ⟨g,0,none⟩) 1 [packL [80,67,83,84] [id]])=>csign_any root (some ⟨g,0,none⟩) 1 1 _ u hr h (by
  intro l hl
  simp only [List.mem_singleton] at hl
  subst hl
  exact packL_bytes (by unfold bytes;decide)) (by rw [show ([packL [80,67,83,84] [id]]:List (List Int)).flatten=stopT id by rw [stopT];simp,stopT_len];decide) (by decide)
 rw [show ([packL [80,67,83,84] [id]]:List (List Int)).flatten=stopT id by rw [stopT];simp] at hsg
 have hbody:=fun u=>body_any PCST id u (by decide)
 rw [sbytes_cst] at hbody
 obtain ⟨gs,hgs⟩:∃ b,b=esign root (stopT id):=⟨_,rfl⟩
 have hgl:gs.length=64:=by rw [hgs,esign_len]
 have hsg:∀ (u:World) (v:Value),isL [packL [80,67,83,84] [id]] u v→Calls Tryd.prog 55 #[.agg (arr .u8 rs),v] u fun e w'=>e = .returned (.agg (arr .u8 gs))∧Below u.heap.size u w':=by
  intro u v h
  obtain ⟨g,rfl,h⟩:=h
  rw [hgs]
  exact hsg u g h
 obtain ⟨B,hB⟩:∃ b,b=packL [80,67,83,84] [id]:=⟨_,rfl⟩
 rw [← hB] at hsg hbody
 have hm:=fun w=>may_any id w
 unfold stopV
 rw [← hgs]
 obtain ⟨zc,hzc⟩:∃ c,c=stopC 0 (List.replicate 64 0):=⟨_,rfl⟩
 have hzs:=stopC_size (id:=0) (gs:=List.replicate 64 0) (by simp)
 have hz1:=stopC_one 0 (List.replicate 64 0)
 have hz:=fun w=>zero_stop w
 have hz0:=fun w=>build_stop0 w
 rw [← hzc] at hzs hz1 hz hz0 ⊢
 obtain ⟨sc,hsc⟩:∃ c,c=stopC id gs:=⟨_,rfl⟩
 have hss:=stopC_size (id:=id) hgl
 have hs1:=stopC_one id gs
 have hbl:=fun w=>build_stop id gs hgl w
 rw [← hsc] at hss hs1 hbl ⊢
 have HSG:=Lib.hid hsg
 have HBO:=Lib.hid hbody
 have HRL:=Lib.hid hr.len
 have HZS:=Lib.hid hzs
 have HZ1:=Lib.hid hz1
 have HZ:=Lib.hid hz
 have HZ0:=Lib.hid hz0
 have HSS:=Lib.hid hss
 have HS1:=Lib.hid hs1
 have HBL:=Lib.hid hbl
 have HS0:=Lib.hid (Blk.two w (arr .u8 rs) zc 23 52)
 have HIZ:Hid ((Tryd.prog.info? 52).map (·.size)=some zc.size):=Lib.hid (by rw [hzs];exact size_stop)
 have HIS:Hid ((Tryd.prog.info? 52).map (·.size)=some sc.size):=Lib.hid (by rw [hss];exact size_stop)
 clear hsg hbody hr hzs hz1 hz hz0 hss hs1 hbl hgl hgs hB hzc hsc
 cases hok:okI id with
 | false =>
  rw [hok] at hm
  have HM:=Lib.hid hm
  clear hm
  go_enter Tryd.func36, Tryd.ntmps36
  go_wp2_with (first|((with_reducible refine aS 4 ?_);refine wpList_alloc_row rfl 52 rfl _ (HZ.out _) ?_)|((with_reducible show Calls _ 53 _ _ _);go_at_call 53; refine (HM.out _).mono ?_;rintro e w1 ⟨rfl,rfl⟩)|((with_reducible refine aS 9 ?_);refine wpList_build (by rfl) 52 _ rfl #[] rfl _ (HZ0.out _) ?_)|((with_reducible refine aT 4 ?_);refine wpList_store_whole rfl 52 _ _ rfl (w.heap.size+1) _ _ 52 (HS0.out.get 1 rfl) rfl rfl rfl HIZ.out HZ1.out ?_;intro w7 hb7 hk7 hz7;have HB7:=Lib.hid (HS0.out.put 1 rfl hk7 hb7);clear hb7 hk7 hz7))
  all_goals (try simp only [Exit.then])
  refine bodyPost_ret (results_cell_tmp_row rfl _ _ (w.heap.size+1) 52 _ (0,0) _ _ rfl (HB7.out.get 1 rfl) Tryd.underlying52 rfl HIZ.out rfl) rfl ?_
  exact ⟨by simp,HB7.out.below⟩
 | true =>
  rw [hok] at hm
  have HM:=Lib.hid hm
  clear hm
  go_enter Tryd.func36, Tryd.ntmps36
  go_upto_region 3 with (first|((with_reducible refine aS 4 ?_);refine wpList_alloc_row rfl 52 rfl _ (HZ.out _) ?_)|((with_reducible show Calls _ 53 _ _ _);go_at_call 53; refine (HM.out _).mono ?_;rintro e w1 ⟨rfl,rfl⟩))
  (try simp only [World.size_alloc,Act.put,sA,sZ,sS])
  generalize ((w.alloc (.cells (arr .u8 rs) 23)).alloc (.cells zc 52))=wb at HS0 ⊢
  refine wp_region_sym (T:=fun _=>False) (w:=w) (sy:=[Yv (.int .i64 id),Yr .u8 rs,Yv (.int .i64 id),Yw (isB B) isB.below,Yw (isL [B]) isL.below,Yr .u8 gs,Yv (.agg sc),Y0,Yv (.int .i64 0)]) (pt:=[(7,1,cel sc 52)]) (by kernel_rfl) (by kernel_rfl) (by kernel_rfl) HS0.out.holds (fun hW=>?s1) (fun q1 x1 u1 _ hH=>?e1)
  case s1 =>
   refine SyP hW ?_
   refine SyL hW ?_ 0 0 (arr .u8 rs) 23 rowN HRL.out (arr_part _ _)
   refine SyP hW ?_
   refine SyCw hW ?_ (fun u _=>(HBO.out u).mono (by rintro e w' ⟨v,rfl,ho,hb⟩;exact ⟨v,rfl,isB.own ho,hb⟩))
   refine SyMw hW ?_ 3 (.tmp 13) [] [] (fun v => #[v]) 24 (fun u v k _ h=>isL_one h) (fun ρ u h e=>?m2)
   case m2 =>
    obtain ⟨s,c,hv, -, -⟩:=h
    simp only [execOp,List.map_toArray,List.map_cons,List.map_nil,hv]
    show Sem.run _ _ _=_
    first|rfl|kernel_rfl
   refine SyCv hW ?_ (xs:=[.tmp 11]) (vs:=[.agg (arr .u8 rs)]) 4 (fun u v _ h=>HSG.out u v h)
   refine SyB hW ?_ _ _ [(0, .int .i64 id),(1, .agg (arr .u8 gs))] (fun u=>HBL.out u)
   refine SySa hW ?_ 1 zc 52 size_stop HZS.out HSS.out HS1.out
   refine SyP hW ?_
   exact SyN
  case e1 =>
   have HB1:=Lib.hid (hH.blk [0,1] [(w.heap.size,arr .u8 rs, 23),(w.heap.size+1,sc, 52)] (by decide) (by kernel_rfl))
   simp only [lay,Sy.at,den',Yr,Yv,Yp,Yq,Yn,Y0,Yw,Act.put,sA,sZ,sS,Nat.reduceAdd]
   clear hH HS0
   (try simp only [Exit.then])
   go_wp2_with fail
   refine bodyPost_ret (results_cell_tmp_row rfl _ _ (w.heap.size+1) 52 _ (0,0) _ _ rfl (HB1.out.get 1 rfl) Tryd.underlying52 rfl HIS.out rfl) rfl ?_
   exact ⟨by simp,HB1.out.below⟩
end Go.Proofs.YtodnkallpfkdiaaDoor.Ce
namespace Go.Proofs.YtodnkallpfkdiaaDoor.Ce
open Go.RowKit Lm Fp Cu Sl Sc
theorem certC_one (id:Int) (ks gs:List Int):(certC id ks gs).all (·.oneCell')=true:=by
 rw [certC,Array.all_append,Array.all_append,one_arr,one_arr]
 simp [Value.oneCell']
def cert0:Array Value:=certC 0 (List.replicate 32 0) (List.replicate 64 0)
/-- The certificate that there is, and the error. -/
def certV (root key:Nat) (id:Int):Value:=if okI id=true then (if (eread key).isSome=true then .tuple #[.agg (certC id (n32 key) (esign root (certT id key))), .int .i64 0] else .tuple #[.agg cert0, .int .i64 21]) else .tuple #[.agg cert0, .int .i64 1]
theorem sign_any {rs ks:List Int} (root key:Nat) (id:Int) (w:World) (hr:K32 rs root) (hk:K32 ks key) :
  Calls Tryd.prog 23 #[.agg (arr .u8 rs), .int .i64 id, .agg (arr .u8 ks)] w fun e w'=>e = .returned (certV root key id)∧Below w.heap.size w w':=by
 have hflat:([packL [80,67,67,84] [id],ks]:List (List Int)).flatten=certT id key:=by rw [certT,n32,← hk.1];simp
 have hsg:=fun (u:World) (g:Nat) (h:SrcL u (some ⟨g,0,none⟩) 2 [packL [80,67,67,84] [id],ks])=>csign_any root (some ⟨g,0,none⟩) 2 2 _ u hr h (by
  intro l hl
  simp only [List.mem_cons,List.not_mem_nil,or_false] at hl
  rcases hl with rfl|rfl
  ·exact packL_bytes (by unfold bytes;decide)
  ·rw [hk.1];exact n32_bytes key) (by rw [hflat,certT_len];decide) (by decide)
 rw [hflat] at hsg
 have hbody:=fun u=>body_any PCCT id u (by decide)
 rw [sbytes_cct] at hbody
 obtain ⟨gs,hgs⟩:∃ b,b=esign root (certT id key):=⟨_,rfl⟩
 have hgl:gs.length=64:=by rw [hgs,esign_len]
 have hsg:∀ (u:World) (v:Value),isL [packL [80,67,67,84] [id],ks] u v→Calls Tryd.prog 55 #[.agg (arr .u8 rs),v] u fun e w'=>e = .returned (.agg (arr .u8 gs))∧Below u.heap.size u w':=by
  intro u v h
  obtain ⟨g,rfl,h⟩:=h
  rw [hgs]
  exact hsg u g h
 obtain ⟨B,hB⟩:∃ b,b=packL [80,67,67,84] [id]:=⟨_,rfl⟩
 rw [← hB] at hsg hbody
 have hm:=fun w=>may_any id w
 have hcm:=fun w=>cmay_any key w hk
 unfold certV
 rw [← hgs,show n32 key=ks from hk.1.symm]
 obtain ⟨zc,hzc⟩:∃ c,c=cert0:=⟨_,rfl⟩
 have hzs:cert0.size=97:=certC_size (by simp) (by simp)
 have hz1:cert0.all (·.oneCell')=true:=certC_one _ _ _
 have hz:∀ w,(zeroValue 28).run Tryd.prog w = .ok (.agg cert0) w:=fun w=>zero_cert w
 have hz0:∀ w,(Instr.build 28 #[]).run Tryd.prog w = .ok (.agg cert0) w:=fun w=>build_cert0 w
 rw [← hzc] at hzs hz1 hz hz0 ⊢
 obtain ⟨sc,hsc⟩:∃ c,c=certC id ks gs:=⟨_,rfl⟩
 have hss:=certC_size (id:=id) hgl hk.len
 have hs1:=certC_one id ks gs
 have hbl:=fun w=>build_cert id ks gs hk.len hgl w
 rw [← hsc] at hss hs1 hbl ⊢
 have HKL:=Lib.hid hk.len
 have HSG:=Lib.hid hsg
 have HBO:=Lib.hid hbody
 have HRL:=Lib.hid hr.len
 have HZS:=Lib.hid hzs
 have HZ1:=Lib.hid hz1
 have HZ:=Lib.hid hz
 have HZ0:=Lib.hid hz0
 have HSS:=Lib.hid hss
 have HS1c:=Lib.hid hs1
 have HBL:=Lib.hid hbl
 have HS0:=Lib.hid (Blk.three w (arr .u8 rs) (arr .u8 ks) zc 23 23 28)
 have HIZ:Hid ((Tryd.prog.info? 28).map (·.size)=some zc.size):=Lib.hid (by rw [hzs];exact size_cert)
 have HIS:Hid ((Tryd.prog.info? 28).map (·.size)=some sc.size):=Lib.hid (by rw [hss];exact size_cert)
 clear hsg hbody hr hk hflat hzs hz1 hz hz0 hss hs1 hbl hgl hgs hB hzc hsc
 cases hok:okI id with
 | false =>
  rw [hok] at hm
  have HM:=Lib.hid hm
  clear hm hcm
  go_enter Tryd.func23, Tryd.ntmps23
  go_wp2_with (first|((with_reducible refine aS 6 ?_);refine wpList_alloc_row rfl 28 rfl _ (HZ.out _) ?_)|((with_reducible show Calls _ 53 _ _ _);go_at_call 53; refine (HM.out _).mono ?_;rintro e w1 ⟨rfl,rfl⟩)|((with_reducible refine aS 12 ?_);refine wpList_build (by rfl) 28 _ rfl #[] rfl _ (HZ0.out _) ?_)|((with_reducible refine aT 6 ?_);refine wpList_store_whole rfl 28 _ _ rfl (w.heap.size+1+1) _ _ 28 (HS0.out.get 2 rfl) rfl rfl rfl HIZ.out HZ1.out ?_;intro w7 hb7 hk7 hz7;have HB7:=Lib.hid (HS0.out.put 2 rfl hk7 hb7);clear hb7 hk7 hz7))
  all_goals (try simp only [Exit.then])
  refine bodyPost_ret (results_cell_tmp_row rfl _ _ (w.heap.size+1+1) 28 _ (0,0) _ _ rfl (HB7.out.get 2 rfl) Tryd.underlying28 rfl HIZ.out rfl) rfl ?_
  exact ⟨by simp,HB7.out.below⟩
 | true =>
  rw [hok] at hm
  have HM:=Lib.hid hm
  clear hm
  cases hem:(eread key).isSome with
  | false =>
   rw [hem] at hcm
   have HCM:=Lib.hid hcm
   clear hcm
   go_enter Tryd.func23, Tryd.ntmps23
   go_wp2_with (first|((with_reducible refine aS 6 ?_);refine wpList_alloc_row rfl 28 rfl _ (HZ.out _) ?_)|((with_reducible show Calls _ 53 _ _ _);go_at_call 53; refine (HM.out _).mono ?_;rintro e w1 ⟨rfl,rfl⟩)|((with_reducible refine aS 14 ?_);refine wpList_load_part rfl 23 _ rfl (w.heap.size+1) 0 _ 23 (0,0) _ (HS0.out.get 1 rfl) rfl .u8 ks (arr_part _ _) Tryd.underlying23 rfl (num_i HKL.out) ?_)|((with_reducible show Calls _ 54 _ _ _);go_at_call 54; refine (HCM.out _).mono ?_;rintro e w2 ⟨rfl,hb⟩;have HS1:=Lib.hid (HS0.out.kept hb);clear hb)|((with_reducible refine aS 17 ?_);refine wpList_build (by rfl) 28 _ rfl #[] rfl _ (HZ0.out _) ?_)|((with_reducible refine aT 6 ?_);refine wpList_store_whole rfl 28 _ _ rfl (w.heap.size+1+1) _ _ 28 (HS1.out.get 2 rfl) rfl rfl rfl HIZ.out HZ1.out ?_;intro w7 hb7 hk7 hz7;have HB7:=Lib.hid (HS1.out.put 2 rfl hk7 hb7);clear hb7 hk7 hz7))
   all_goals (try simp only [Exit.then])
   refine bodyPost_ret (results_cell_tmp_row rfl _ _ (w.heap.size+1+1) 28 _ (0,0) _ _ rfl (HB7.out.get 2 rfl) Tryd.underlying28 rfl HIZ.out rfl) rfl ?_
   exact ⟨by simp,HB7.out.below⟩
  | true =>
   rw [hem] at hcm
   have HCM:=Lib.hid hcm
   clear hcm
   go_enter Tryd.func23, Tryd.ntmps23
   go_upto_region 5 with (first|((with_reducible refine aS 6 ?_);refine wpList_alloc_row rfl 28 rfl _ (HZ.out _) ?_)|((with_reducible show Calls _ 53 _ _ _);go_at_call 53; refine (HM.out _).mono ?_;rintro e w1 ⟨rfl,rfl⟩)|((with_reducible refine aS 14 ?_);refine wpList_load_part rfl 23 _ rfl (w.heap.size+1) 0 _ 23 (0,0) _ (HS0.out.get 1 rfl) rfl .u8 ks (arr_part _ _) Tryd.underlying23 rfl (num_i HKL.out) ?_)|((with_reducible show Calls _ 54 _ _ _);go_at_call 54; refine (HCM.out _).mono ?_;rintro e w2 ⟨rfl,hb⟩;have HS1:=Lib.hid (HS0.out.kept hb);clear hb))
   (try simp only [World.size_alloc,Act.put,sA,sZ,sS])
   clear HS0
   refine wp_region_sym (T:=fun _=>False) (w:=w) (sy:=[Yv (.int .i64 id),Yr .u8 ks,Yr .u8 rs,Yv (.int .i64 id),Yw (isB B) isB.below,Yv (.slice (some ⟨w.heap.size+1,0,none⟩) 32 32),Yw (isL [B,ks]) isL.below,Yr .u8 gs,Yv (.agg sc),Y0,Yv (.int .i64 0)]) (pt:=[(9,2,cel sc 28)]) (by kernel_rfl) (by kernel_rfl) (by kernel_rfl) HS1.out.holds (fun hW=>?s1) (fun q1 x1 u1 _ hH=>?e1)
   case s1 =>
    refine SyP hW ?_
    refine SyL hW ?_ 1 0 (arr .u8 ks) 23 rowN HKL.out (arr_part _ _)
    refine SyL hW ?_ 0 0 (arr .u8 rs) 23 rowN HRL.out (arr_part _ _)
    refine SyP hW ?_
    refine SyCw hW ?_ (fun u _=>(HBO.out u).mono (by rintro e w' ⟨v,rfl,ho,hb⟩;exact ⟨v,rfl,isB.own ho,hb⟩))
    refine SyP hW ?_
    refine SyMw hW ?_ 4 (.tmp 22) [.tmp 23] [.slice (some ⟨w.heap.size+1,0,none⟩) 32 32] (fun v => #[v, .slice (some ⟨w.heap.size+1,0,none⟩) 32 32]) 24 (fun u v k hb h=>?m1) (fun ρ u h e=>?m2)
    case m1 =>
     obtain ⟨ob,hob,hp⟩:=hb 1 (cel (arr .u8 ks) 23) (by simp [oldOf]) (by kernel_rfl)
     have hob:u.heap[w.heap.size+1]? = some ob:=hob
     have hp:ob = .cells (arr .u8 ks) 23 (0,0):=hp
     subst hp
     have hs:Src u (some ⟨w.heap.size+1,0,none⟩) ks.length ks:=src_all hob _ rfl
     have h2:=isL_two (t := 24) (c:=32) h hs (by rw [HKL.out];decide)
     rw [HKL.out] at h2
     exact h2
    case m2 =>
     have e:ρ (.tmp 23) = .slice (some ⟨w.heap.size+1,0,none⟩) 32 32:=by simpa using e
     obtain ⟨s,c,hv, -, -⟩:=h
     simp only [execOp,List.map_toArray,List.map_cons,List.map_nil,e,hv]
     show Sem.run _ _ _=_
     first|rfl|kernel_rfl
    refine SyCv hW ?_ (xs:=[.tmp 20]) (vs:=[.agg (arr .u8 rs)]) 6 (fun u v _ h=>HSG.out u v h)
    refine SyB hW ?_ _ _ [(0, .int .i64 id),(1, .agg (arr .u8 ks)),(2, .agg (arr .u8 gs))] (fun u=>HBL.out u)
    refine SySa hW ?_ 2 zc 28 size_cert HZS.out HSS.out HS1c.out
    refine SyP hW ?_
    exact SyN
   case e1 =>
    have HB1:=Lib.hid (hH.blk [0,1,2] [(w.heap.size,arr .u8 rs, 23),(w.heap.size+1,arr .u8 ks, 23),(w.heap.size+1+1,sc, 28)] (by decide) (by kernel_rfl))
    simp only [lay,Sy.at,den',Yr,Yv,Yp,Yq,Yn,Y0,Yw,Act.put,sA,sZ,sS,Nat.reduceAdd]
    clear hH HS1
    (try simp only [Exit.then])
    go_wp2_with fail
    refine bodyPost_ret (results_cell_tmp_row rfl _ _ (w.heap.size+1+1) 28 _ (0,0) _ _ rfl (HB1.out.get 2 rfl) Tryd.underlying28 rfl HIS.out rfl) rfl ?_
    exact ⟨by simp,HB1.out.below⟩
end Go.Proofs.YtodnkallpfkdiaaDoor.Ce
namespace Go.Proofs.YtodnkallpfkdiaaDoor.Ce
open Go.RowKit
theorem num16_any (e:Int) (w:World):Calls Tryd.prog 25 #[.int .i64 e] w fun r w'=>r = .returned (.int .i64 e)∧w=w':=by
 go_enter Tryd.func25, Tryd.ntmps25
 go_wp2_with fail
 all_goals (try simp only [Exit.then])
 go_ret
 exact ⟨rfl,rfl⟩
end Go.Proofs.YtodnkallpfkdiaaDoor.Ce
