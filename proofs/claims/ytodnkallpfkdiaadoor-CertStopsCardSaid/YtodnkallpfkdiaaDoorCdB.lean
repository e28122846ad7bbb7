/- The document's CheckCert, CheckStop: what they answer. Condition: 32 bytes, a signature's 64 bytes; the tables hold what their text lays. -/
import Derived.Test.YtodnkallpfkdiaaDoorCdA
import Derived.Test.YtodnkallpfkdiaaDoorCeI
import Derived.Test.YtodnkallpfkdiaaDoorRv
set_option maxRecDepth 100000
set_option maxHeartbeats 16000000
set_option linter.unusedSimpArgs false
set_option linter.unusedVariables false
namespace Go.Proofs.YtodnkallpfkdiaaDoor.Ce
open Go.RowKit Lm Fp Cu Sl Sc
/-- The tables of the document's Verify. -/
structure TabV (w:World):Prop extends TabP w where
 i:Rd.TabI w
 q:Rd.TabQ w
theorem tabq_below {a b:World} (h:Rd.TabQ a) (k:Below a.heap.size a b):Rd.TabQ b:=fun t ht=>(Kept.of_below k (T:=fun _=>False)).cellX (h t ht) id
theorem TabV.below {u u':World} (h:TabV u) (b:Below u.heap.size u u'):TabV u':=⟨h.toTabP.below b,Rd.range_below h.i b,tabq_below h.q b⟩
theorem rcheck_any {rs ks gs:List Int} (root key:Nat) (id:Int) (w:World) (hr:K32 rs root) (hk:K32 ks key) (hg:gs.length=64) (hgb:bytes gs) (hT:TabV w) :
  Calls Tryd.prog 28 #[.agg (arr .u8 rs), .agg (certC id ks gs)] w fun e w'=>e = .returned (.bool (okI id && ver root gs (certT id key)))∧Below w.heap.size w w':=by
 have hct:=fun (u:World) (h:okI id=true)=>certText_any id key u hk (by simp only [okI,Bool.and_eq_true,decide_eq_true_eq] at h;omega)
 have htl:(certT id key).length≤1000000000:=by rw [certT_len];decide
 have htb:bytes (certT id key):=certT_bytes id key
 obtain ⟨ev,hev⟩:∃ b,b=ver root gs (certT id key):=⟨_,rfl⟩
 have hver:∀ (u:World) (v:Value),TabV u→isB (certT id key) u v→Calls Tryd.prog 64 #[.agg (arr .u8 rs), .agg (arr .u8 gs),v] u fun e w'=>e = .returned (.bool ev)∧Below u.heap.size u w':=by
  intro u v h1 h2
  obtain ⟨s,c,rfl,hc,hs⟩:=h2
  rw [hev,show arr .u8 rs=arr .u8 (n32 root) by rw [n32,← hr.1]]
  exact Rd.rverify_any root s _ c u (by have:=hr.2;rwa [show (256:Nat) ^ 32=2 ^ 256 by decide] at this) hg hgb hs hc htb htl h1.d h1.i h1.x h1.y h1.q h1.k
 rw [← hev]
 obtain ⟨B,hB⟩:∃ b,b=certT id key:=⟨_,rfl⟩
 rw [← hB] at hver hct
 obtain ⟨CC,hCC⟩:∃ c,c=certC id ks gs:=⟨_,rfl⟩
 have hc0:=certC_id id ks gs
 have hc2:=certC_sig id ks gs hk.len
 have hck:=certC_key id ks gs
 rw [← hCC] at hc0 hc2 hck ⊢
 have HV:=Lib.hid hver
 have HCTX:=Lib.hid hct
 have HC0:=Lib.hid hc0
 have HC2:=Lib.hid hc2
 have HCK:=Lib.hid hck
 have HKL:=Lib.hid hk.len
 have HRL:=Lib.hid hr.len
 have HGL:=Lib.hid hg
 have HTT:=Lib.hid hT
 have HS0:=Lib.hid (Blk.two w (arr .u8 rs) CC 23 28)
 clear hver hct hc0 hc2 hr hg hgb htl htb hB hCC hev hT hk hck
 go_enter Tryd.func28, Tryd.ntmps28
 go_upto_region 1 with fail
 (try simp only [World.size_alloc,Act.put,sA,sZ,sS])
 generalize ((w.alloc (.cells (arr .u8 rs) 23)).alloc (.cells CC 28))=wb at HS0 ⊢
 cases hok:okI id with
 | true =>
  refine wp_region_sym (T:=fun _=>False) (w:=w) (sy:=[Yp (w.heap.size+1) 0,Yv (.int .i64 id),Yv (.bool true),Yv (.bool true),Yr .u8 rs,Yp (w.heap.size+1) 33,Yr .u8 gs,Yp (w.heap.size+1) 0,Yv (.int .i64 id),Yp (w.heap.size+1) 1,Yr .u8 ks,Yw (isB B) isB.below,Yv (.bool ev),Yv (.bool ev),Yv (.bool ev)]) (pt:=[]) (by kernel_rfl) (by kernel_rfl) (by kernel_rfl) HS0.out.holds (fun hW=>?s1) (fun q1 x1 u1 _ hH=>?e1)
  case s1 =>
   refine SyP hW ?_
   refine SyL1 hW ?_ 1 0 CC 28 HC0.out (d:=_) rfl Tryd.underlying3
   refine SyD hW ?_ (fun u _=>(small_any id u).mono (by rintro e w' ⟨rfl,rfl⟩;exact ⟨by rw [hok],Below.refl _ _⟩))
   refine SyP hW ?_
   refine SyU (SyL hW ?_ 0 0 (arr .u8 rs) 23 rowN HRL.out (arr_part _ _))
   refine SyU (SyP hW ?_)
   refine SyU (SyL hW ?_ 1 33 CC 28 rowS HGL.out HC2.out)
   refine SyU (SyP hW ?_)
   refine SyU (SyL1 hW ?_ 1 0 CC 28 HC0.out (d:=_) rfl Tryd.underlying3)
   refine SyU (SyP hW ?_)
   refine SyU (SyL hW ?_ 1 1 CC 28 rowN HKL.out HCK.out)
   refine SyU (SyCw hW ?_ (vs:=[.int .i64 id, .agg (arr .u8 ks)]) (fun u _=>(HCTX.out u hok).mono (by rintro e w' ⟨v,rfl,ho,hb⟩;exact ⟨v,rfl,isB.own ho,hb⟩)))
   refine SyU (SyCv hW ?_ (xs:=[.tmp 9, .tmp 11]) (vs:=[.agg (arr .u8 rs), .agg (arr .u8 gs)]) 11 (fun u v k h=>HV.out u v (HTT.out.below (kept_below k)) h))
   refine SyP hW ?_
   refine SyP hW ?_
   exact SyN
  case e1 =>
   have HB1:=Lib.hid (hH.blk [0,1] [(w.heap.size,arr .u8 rs, 23),(w.heap.size+1,CC, 28)] (by decide) (by kernel_rfl))
   simp only [lay,Sy.at,den',Yr,Yv,Yp,Yq,Yn,Y0,Yw,Act.put,sA,sZ,sS,Nat.reduceAdd]
   clear hH HS0
   (try simp only [Exit.then])
   go_wp2_with fail
   go_ret
   exact ⟨by simp [hok],HB1.out.below⟩
 | false =>
  refine wp_region_sym (T:=fun _=>False) (w:=w) (sy:=[Yp (w.heap.size+1) 0,Yv (.int .i64 id),Yv (.bool false),Yv (.bool false),Yv undef,Yv undef,Yv undef,Yv undef,Yv undef,Yv undef,Yv undef,Yv undef,Yv undef,Yv (.bool false),Yv (.bool false)]) (pt:=[]) (by kernel_rfl) (by kernel_rfl) (by kernel_rfl) HS0.out.holds (fun hW=>?s2) (fun q1 x1 u1 _ hH=>?e2)
  case s2 =>
   refine SyP hW ?_
   refine SyL1 hW ?_ 1 0 CC 28 HC0.out (d:=_) rfl Tryd.underlying3
   refine SyD hW ?_ (fun u _=>(small_any id u).mono (by rintro e w' ⟨rfl,rfl⟩;exact ⟨by rw [hok],Below.refl _ _⟩))
   refine SyP hW ?_
   iterate 9 refine SyK hW ?_
   refine SyP hW ?_
   refine SyP hW ?_
   exact SyN
  case e2 =>
   have HB1:=Lib.hid (hH.blk [0,1] [(w.heap.size,arr .u8 rs, 23),(w.heap.size+1,CC, 28)] (by decide) (by kernel_rfl))
   simp only [lay,Sy.at,den',Yr,Yv,Yp,Yq,Yn,Y0,Yw,Act.put,sA,sZ,sS,Nat.reduceAdd]
   clear hH HS0
   (try simp only [Exit.then])
   go_wp2_with fail
   go_ret
   exact ⟨by simp [hok],HB1.out.below⟩
theorem rcheckStop_any {rs gs:List Int} (root:Nat) (id:Int) (w:World) (hr:K32 rs root) (hg:gs.length=64) (hgb:bytes gs) (hT:TabV w) :
  Calls Tryd.prog 30 #[.agg (arr .u8 rs), .agg (stopC id gs)] w fun e w'=>e = .returned (.bool (okI id && ver root gs (stopT id)))∧Below w.heap.size w w':=by
 have hct:=fun (u:World) (h:okI id=true)=>stopText_any id u (by simp only [okI,Bool.and_eq_true,decide_eq_true_eq] at h;omega)
 have htl:(stopT id).length≤1000000000:=by rw [stopT_len];decide
 have htb:bytes (stopT id):=stopT_bytes id
 obtain ⟨ev,hev⟩:∃ b,b=ver root gs (stopT id):=⟨_,rfl⟩
 have hver:∀ (u:World) (v:Value),TabV u→isB (stopT id) u v→Calls Tryd.prog 64 #[.agg (arr .u8 rs), .agg (arr .u8 gs),v] u fun e w'=>e = .returned (.bool ev)∧Below u.heap.size u w':=by
  intro u v h1 h2
  obtain ⟨s,c,rfl,hc,hs⟩:=h2
  rw [hev,show arr .u8 rs=arr .u8 (n32 root) by rw [n32,← hr.1]]
  exact Rd.rverify_any root s _ c u (by have:=hr.2;rwa [show (256:Nat) ^ 32=2 ^ 256 by decide] at this) hg hgb hs hc htb htl h1.d h1.i h1.x h1.y h1.q h1.k
 rw [← hev]
 obtain ⟨B,hB⟩:∃ b,b=stopT id:=⟨_,rfl⟩
 rw [← hB] at hver hct
 obtain ⟨CC,hCC⟩:∃ c,c=stopC id gs:=⟨_,rfl⟩
 have hc0:=stopC_id id gs
 have hc2:=stopC_sig id gs
 rw [← hCC] at hc0 hc2 ⊢
 have HV:=Lib.hid hver
 have HCTX:=Lib.hid hct
 have HC0:=Lib.hid hc0
 have HC2:=Lib.hid hc2
 have HRL:=Lib.hid hr.len
 have HGL:=Lib.hid hg
 have HTT:=Lib.hid hT
 have HS0:=Lib.hid (Blk.two w (arr .u8 rs) CC 23 52)
 clear hver hct hc0 hc2 hr hg hgb htl htb hB hCC hev hT 
 go_enter Tryd.func30, Tryd.ntmps30
 go_upto_region 1 with fail
 (try simp only [World.size_alloc,Act.put,sA,sZ,sS])
 generalize ((w.alloc (.cells (arr .u8 rs) 23)).alloc (.cells CC 52))=wb at HS0 ⊢
 cases hok:okI id with
 | true =>
  refine wp_region_sym (T:=fun _=>False) (w:=w) (sy:=[Yp (w.heap.size+1) 0,Yv (.int .i64 id),Yv (.bool true),Yv (.bool true),Yr .u8 rs,Yp (w.heap.size+1) 1,Yr .u8 gs,Yp (w.heap.size+1) 0,Yv (.int .i64 id),Yw (isB B) isB.below,Yv (.bool ev),Yv (.bool ev),Yv (.bool ev)]) (pt:=[]) (by kernel_rfl) (by kernel_rfl) (by kernel_rfl) HS0.out.holds (fun hW=>?s1) (fun q1 x1 u1 _ hH=>?e1)
  case s1 =>
   refine SyP hW ?_
   refine SyL1 hW ?_ 1 0 CC 52 HC0.out (d:=_) rfl Tryd.underlying3
   refine SyD hW ?_ (fun u _=>(small_any id u).mono (by rintro e w' ⟨rfl,rfl⟩;exact ⟨by rw [hok],Below.refl _ _⟩))
   refine SyP hW ?_
   refine SyU (SyL hW ?_ 0 0 (arr .u8 rs) 23 rowN HRL.out (arr_part _ _))
   refine SyU (SyP hW ?_)
   refine SyU (SyL hW ?_ 1 1 CC 52 rowS HGL.out HC2.out)
   refine SyU (SyP hW ?_)
   refine SyU (SyL1 hW ?_ 1 0 CC 52 HC0.out (d:=_) rfl Tryd.underlying3)
   refine SyU (SyCw hW ?_ (vs:=[.int .i64 id]) (fun u _=>(HCTX.out u hok).mono (by rintro e w' ⟨v,rfl,ho,hb⟩;exact ⟨v,rfl,isB.own ho,hb⟩)))
   refine SyU (SyCv hW ?_ (xs:=[.tmp 9, .tmp 11]) (vs:=[.agg (arr .u8 rs), .agg (arr .u8 gs)]) 9 (fun u v k h=>HV.out u v (HTT.out.below (kept_below k)) h))
   refine SyP hW ?_
   refine SyP hW ?_
   exact SyN
  case e1 =>
   have HB1:=Lib.hid (hH.blk [0,1] [(w.heap.size,arr .u8 rs, 23),(w.heap.size+1,CC, 52)] (by decide) (by kernel_rfl))
   simp only [lay,Sy.at,den',Yr,Yv,Yp,Yq,Yn,Y0,Yw,Act.put,sA,sZ,sS,Nat.reduceAdd]
   clear hH HS0
   (try simp only [Exit.then])
   go_wp2_with fail
   go_ret
   exact ⟨by simp [hok],HB1.out.below⟩
 | false =>
  refine wp_region_sym (T:=fun _=>False) (w:=w) (sy:=[Yp (w.heap.size+1) 0,Yv (.int .i64 id),Yv (.bool false),Yv (.bool false),Yv undef,Yv undef,Yv undef,Yv undef,Yv undef,Yv undef,Yv undef,Yv (.bool false),Yv (.bool false)]) (pt:=[]) (by kernel_rfl) (by kernel_rfl) (by kernel_rfl) HS0.out.holds (fun hW=>?s2) (fun q1 x1 u1 _ hH=>?e2)
  case s2 =>
   refine SyP hW ?_
   refine SyL1 hW ?_ 1 0 CC 52 HC0.out (d:=_) rfl Tryd.underlying3
   refine SyD hW ?_ (fun u _=>(small_any id u).mono (by rintro e w' ⟨rfl,rfl⟩;exact ⟨by rw [hok],Below.refl _ _⟩))
   refine SyP hW ?_
   iterate 7 refine SyK hW ?_
   refine SyP hW ?_
   refine SyP hW ?_
   exact SyN
  case e2 =>
   have HB1:=Lib.hid (hH.blk [0,1] [(w.heap.size,arr .u8 rs, 23),(w.heap.size+1,CC, 52)] (by decide) (by kernel_rfl))
   simp only [lay,Sy.at,den',Yr,Yv,Yp,Yq,Yn,Y0,Yw,Act.put,sA,sZ,sS,Nat.reduceAdd]
   clear hH HS0
   (try simp only [Exit.then])
   go_wp2_with fail
   go_ret
   exact ⟨by simp [hok],HB1.out.below⟩
end Go.Proofs.YtodnkallpfkdiaaDoor.Ce
