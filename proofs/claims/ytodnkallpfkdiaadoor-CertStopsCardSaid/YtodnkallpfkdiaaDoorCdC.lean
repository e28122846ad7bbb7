/- The document's Stop: what it answers. Condition: 32 bytes, a signature's 64 bytes; the tables hold what their text lays. -/
import Derived.Test.YtodnkallpfkdiaaDoorCdB
import Derived.Test.YtodnkallpfkdiaaDoorRpT
set_option maxRecDepth 100000
set_option maxHeartbeats 16000000
set_option linter.unusedSimpArgs false
set_option linter.unusedVariables false
namespace Go.Proofs.YtodnkallpfkdiaaDoor.Ce
open Go.RowKit Lm Fp Cu Sl Sc
/-- The tables of the document's Sign. -/
structure TabS (w:World):Prop extends TabP w where
 q:Rd.TabQ w
theorem TabS.below {u u':World} (h:TabS u) (b:Below u.heap.size u u'):TabS u':=⟨h.toTabP.below b,tabq_below h.q b⟩
theorem TabV.s {u:World} (h:TabV u):TabS u:=⟨h.toTabP,h.q⟩
theorem rstop_any {rs:List Int} (root:Nat) (id:Int) (w:World) (hr:K32 rs root) (hT:TabS w) :
  Calls Tryd.prog 31 #[.agg (arr .u8 rs), .int .i64 id] w fun e w'=>e = .returned (stopV root id)∧Below w.heap.size w w':=by
 have hct:=fun (u:World) (h:okI id=true)=>stopText_any id u (by simp only [okI,Bool.and_eq_true,decide_eq_true_eq] at h;omega)
 have htl:(stopT id).length≤1000000000:=by rw [stopT_len];decide
 have htb:bytes (stopT id):=stopT_bytes id
 obtain ⟨gs,hgs⟩:∃ b,b=esign root (stopT id):=⟨_,rfl⟩
 have hgl:gs.length=64:=by rw [hgs,esign_len]
 have hsg:∀ (u:World) (v:Value),TabS u→isB (stopT id) u v→Calls Tryd.prog 57 #[.agg (arr .u8 rs),v] u fun e w'=>e = .returned (.agg (arr .u8 gs))∧Below u.heap.size u w':=by
  intro u v h1 h2
  obtain ⟨s,c,rfl,hc,hs⟩:=h2
  rw [hgs,show arr .u8 rs=arr .u8 (n32 root) by rw [n32,← hr.1]]
  exact Rd.rsign_any root s _ c u hs hc htb htl h1.d h1.x h1.y h1.q h1.k
 have hm:=fun w=>small_any id w
 unfold stopV
 rw [← hgs]
 obtain ⟨B,hB⟩:∃ b,b=stopT id:=⟨_,rfl⟩
 rw [← hB] at hsg hct
 obtain ⟨zc,hzc⟩:∃ c,c=stopC 0 (List.replicate 64 0):=⟨_,rfl⟩
 have hzs:=stopC_size (id:=0) (gs:=List.replicate 64 0) (by simp)
 have hz1:=stopC_one 0 (List.replicate 64 0)
 have hz:=fun w=>zero_stop w
 have hz0:=fun w=>build_stop0 w
 rw [← hzc] at hzs hz1 hz hz0 ⊢
 obtain ⟨sc,hsc⟩:∃ c,c=stopC id gs:=⟨_,rfl⟩
 have hss:=stopC_size (id:=id) hgl
 have hs1:=stopC_one id gs
 have hbl:=fun w=>build_stop id gs hgl w
 rw [← hsc] at hss hs1 hbl ⊢
 have HSG:=Lib.hid hsg
 have HCTX:=Lib.hid hct
 have HRL:=Lib.hid hr.len
 have HZS:=Lib.hid hzs
 have HZ1:=Lib.hid hz1
 have HZ:=Lib.hid hz
 have HZ0:=Lib.hid hz0
 have HSS:=Lib.hid hss
 have HS1:=Lib.hid hs1
 have HBL:=Lib.hid hbl
 have HTT:=Lib.hid hT
 have HS0:=Lib.hid (Blk.two w (arr .u8 rs) zc 23 52)
 have HIZ:Hid ((Tryd.prog.info? 52).map (·.size)=some zc.size):=Lib.hid (by rw [hzs];exact size_stop)
 have HIS:Hid ((Tryd.prog.info? 52).map (·.size)=some sc.size):=Lib.hid (by rw [hss];exact size_stop)
 clear hsg hct hr hzs hz1 hz hz0 hss hs1 hbl hgl hgs hB hzc hsc htl htb hT
 cases hok:okI id with
 | false =>
  rw [hok] at hm
  have HM:=Lib.hid hm
  clear hm
  go_enter Tryd.func31, Tryd.ntmps31
  go_wp2_with (first|((with_reducible refine aS 4 ?_);refine wpList_alloc_row rfl 52 rfl _ (HZ.out _) ?_)|((with_reducible show Calls _ 48 _ _ _);go_at_call 48; refine (HM.out _).mono ?_;rintro e w1 ⟨rfl,rfl⟩)|((with_reducible refine aS 9 ?_);refine wpList_build (by rfl) 52 _ rfl #[] rfl _ (HZ0.out _) ?_)|((with_reducible refine aT 4 ?_);refine wpList_store_whole rfl 52 _ _ rfl (w.heap.size+1) _ _ 52 (HS0.out.get 1 rfl) rfl rfl rfl HIZ.out HZ1.out ?_;intro w7 hb7 hk7 hz7;have HB7:=Lib.hid (HS0.out.put 1 rfl hk7 hb7);clear hb7 hk7 hz7))
  all_goals (try simp only [Exit.then])
  refine bodyPost_ret (results_cell_tmp_row rfl _ _ (w.heap.size+1) 52 _ (0,0) _ _ rfl (HB7.out.get 1 rfl) Tryd.underlying52 rfl HIZ.out rfl) rfl ?_
  exact ⟨by simp,HB7.out.below⟩
 | true =>
  rw [hok] at hm
  have HM:=Lib.hid hm
  clear hm
  go_enter Tryd.func31, Tryd.ntmps31
  go_upto_region 3 with (first|((with_reducible refine aS 4 ?_);refine wpList_alloc_row rfl 52 rfl _ (HZ.out _) ?_)|((with_reducible show Calls _ 48 _ _ _);go_at_call 48; refine (HM.out _).mono ?_;rintro e w1 ⟨rfl,rfl⟩))
  (try simp only [World.size_alloc,Act.put,sA,sZ,sS])
  generalize ((w.alloc (.cells (arr .u8 rs) 23)).alloc (.cells zc 52))=wb at HS0 ⊢
  refine wp_region_sym (T:=fun _=>False) (w:=w) (sy:=[Yv (.int .i64 id),Yr .u8 rs,Yv (.int .i64 id),Yw (isB B) isB.below,Yr .u8 gs,Yv (.agg sc),Y0,Yv (.int .i64 0)]) (pt:=[(6,1,cel sc 52)]) (by kernel_rfl) (by kernel_rfl) (by kernel_rfl) HS0.out.holds (fun hW=>?s1) (fun q1 x1 u1 _ hH=>?e1)
  case s1 =>
   refine SyP hW ?_
   refine SyL hW ?_ 0 0 (arr .u8 rs) 23 rowN HRL.out (arr_part _ _)
   refine SyP hW ?_
   refine SyCw hW ?_ (fun u _=>(HCTX.out u hok).mono (by rintro e w' ⟨v,rfl,ho,hb⟩;exact ⟨v,rfl,isB.own ho,hb⟩))
   refine SyCv hW ?_ (xs:=[.tmp 11]) (vs:=[.agg (arr .u8 rs)]) 3 (fun u v k h=>HSG.out u v (HTT.out.below (kept_below k)) h)
   refine SyB hW ?_ _ _ [(0, .int .i64 id),(1, .agg (arr .u8 gs))] (fun u=>HBL.out u)
   refine SySa hW ?_ 1 zc 52 size_stop HZS.out HSS.out HS1.out
   refine SyP hW ?_
   exact SyN
  case e1 =>
   have HB1:=Lib.hid (hH.blk [0,1] [(w.heap.size,arr .u8 rs, 23),(w.heap.size+1,sc, 52)] (by decide) (by kernel_rfl))
   simp only [lay,Sy.at,den',Yr,Yv,Yp,Yq,Yn,Y0,Yw,Act.put,sA,sZ,sS,Nat.reduceAdd]
   clear hH HS0
   (try simp only [Exit.then])
   go_wp2_with fail
   refine bodyPost_ret (results_cell_tmp_row rfl _ _ (w.heap.size+1) 52 _ (0,0) _ _ rfl (HB1.out.get 1 rfl) Tryd.underlying52 rfl HIS.out rfl) rfl ?_
   exact ⟨by simp,HB1.out.below⟩
end Go.Proofs.YtodnkallpfkdiaaDoor.Ce
