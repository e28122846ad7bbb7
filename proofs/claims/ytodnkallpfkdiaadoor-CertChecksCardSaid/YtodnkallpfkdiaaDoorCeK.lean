/- portcullislaw16.CertChecks: it answers true. Condition: the arguments' sizes; the tables hold what their text lays. -/
import Derived.Test.YtodnkallpfkdiaaDoorCdB
import Derived.Test.YtodnkallpfkdiaaDoorCeQ
set_option maxRecDepth 100000
set_option maxHeartbeats 16000000
set_option linter.unusedSimpArgs false
set_option linter.unusedVariables false
namespace Go.Proofs.YtodnkallpfkdiaaDoor.Ce
open Go.RowKit Lm Fp Cu Sl Sc
theorem checks_any {rs ks gs hs:List Int} (root key:Nat) (id jd:Int) (w:World) (hr:K32 rs root) (hk:K32 ks key) (hg:gs.length=64) (hgb:bytes gs) (hh:hs.length=64) (hhb:bytes hs) (hT:TabV w) :
  Calls Tryd.prog 6 #[.agg (arr .u8 rs), .agg (certC id ks gs), .agg (stopC jd hs)] w fun e w'=>e = .returned (.bool true)∧Below w.heap.size w w':=by
 have hal:=fun (u:World) (h:TabV u)=>alive16_any u h.toTabP
 have hc1:=fun (u:World)=>check_any root key id u hr hk hg hgb
 have hc2:=fun (u:World) (h:TabV u)=>rcheck_any root key id u hr hk hg hgb h
 have hp1:=fun (u:World)=>checkStop_any root jd u hr hh hhb
 have hp2:=fun (u:World) (h:TabV u)=>rcheckStop_any root jd u hr hh hhb h
 generalize (okI id && ver root gs (certT id key))=c1 at hc1 hc2
 generalize (okI jd && ver root hs (stopT jd))=c2 at hp1 hp2
 have HCI:Hid ((Tryd.prog.info? 28).map (·.size)=some (certC id ks gs).size):=Lib.hid (by rw [certC_size hg hk.len];exact size_cert)
 have HSI:Hid ((Tryd.prog.info? 52).map (·.size)=some (stopC jd hs).size):=Lib.hid (by rw [stopC_size hh];exact size_stop)
 obtain ⟨CC,hCC⟩:∃ c,c=certC id ks gs:=⟨_,rfl⟩
 obtain ⟨SC,hSC⟩:∃ c,c=stopC jd hs:=⟨_,rfl⟩
 rw [← hCC] at hc1 hc2 HCI ⊢
 rw [← hSC] at hp1 hp2 HSI ⊢
 have HAL:=Lib.hid hal
 have HC1:=Lib.hid hc1
 have HC2:=Lib.hid hc2
 have HP1:=Lib.hid hp1
 have HP2:=Lib.hid hp2
 have HRL:=Lib.hid hr.len
 have HT:=Lib.hid hT
 have HS0:=Lib.hid (Blk.three w (arr .u8 rs) CC SC 23 28 52)
 clear hal hc1 hc2 hp1 hp2 hr hk hg hgb hh hhb hT hCC hSC
 go_enter Tryd.func6, Tryd.ntmps6
 go_upto_region 1 with fail
 (try simp only [World.size_alloc,Act.put,sA,sZ,sS])
 generalize (((w.alloc (.cells (arr .u8 rs) 23)).alloc (.cells CC 28)).alloc (.cells SC 52))=wb at HS0 ⊢
 go_upto_region 2 with ((with_reducible show Calls _ 22 _ _ _);go_at_call 22; refine (HAL.out _ (HT.out.below HS0.out.below)).mono ?_;rintro e w1 ⟨rfl,hb1⟩;have HS1:=Lib.hid (HS0.out.kept hb1);clear hb1)
 (try simp only [World.size_alloc,Act.put,sA,sZ,sS])
 refine wp_region_sym (T:=fun _=>False) (w:=w) (sy:=[Yv (.bool true),Yv (.bool true),Yr .u8 rs,Yv (.agg CC),Yv (.bool c1),Yr .u8 rs,Yv (.agg CC),Yv (.bool c1),Yv (.bool true),Yv (.bool true),Yv (.bool true),Yr .u8 rs,Yv (.agg SC),Yv (.bool c2),Yr .u8 rs,Yv (.agg SC),Yv (.bool c2),Yv (.bool true),Yv (.bool true),Yv (.bool true)]) (pt:=[]) (by kernel_rfl) (by kernel_rfl) (by kernel_rfl) HS1.out.holds (fun hW=>?s1) (fun q1 x1 u1 _ hH=>?e1)
 case s1 =>
  refine SyP hW ?_
  refine SyP hW ?_
  refine SyU (SyL hW ?_ 0 0 (arr .u8 rs) 23 rowN HRL.out (arr_part _ _))
  refine SyU (SyLa hW ?_ 1 0 CC 28 (all_of CC) Tryd.underlying28 rfl HCI.out)
  refine SyU (SyD hW ?_ (vs:=[.agg (arr .u8 rs), .agg CC]) (fun u _=>HC1.out u))
  refine SyU (SyL hW ?_ 0 0 (arr .u8 rs) 23 rowN HRL.out (arr_part _ _))
  refine SyU (SyLa hW ?_ 1 0 CC 28 (all_of CC) Tryd.underlying28 rfl HCI.out)
  refine SyU (SyD hW ?_ (vs:=[.agg (arr .u8 rs), .agg CC]) (fun u k=>HC2.out u (HT.out.below (kept_below k))))
  refine SyU (SyX hW ?_ [.tmp 13, .tmp 16] [.bool c1, .bool c1] (fun ρ u _ e=>exec_eqlb rfl e u))
  refine SyP hW ?_
  refine SyP hW ?_
  refine SyU (SyL hW ?_ 0 0 (arr .u8 rs) 23 rowN HRL.out (arr_part _ _))
  refine SyU (SyLa hW ?_ 2 0 SC 52 (all_of SC) Tryd.underlying52 rfl HSI.out)
  refine SyU (SyD hW ?_ (vs:=[.agg (arr .u8 rs), .agg SC]) (fun u _=>HP1.out u))
  refine SyU (SyL hW ?_ 0 0 (arr .u8 rs) 23 rowN HRL.out (arr_part _ _))
  refine SyU (SyLa hW ?_ 2 0 SC 52 (all_of SC) Tryd.underlying52 rfl HSI.out)
  refine SyU (SyD hW ?_ (vs:=[.agg (arr .u8 rs), .agg SC]) (fun u k=>HP2.out u (HT.out.below (kept_below k))))
  refine SyU (SyX hW ?_ [.tmp 22, .tmp 25] [.bool c2, .bool c2] (fun ρ u _ e=>exec_eqlb rfl e u))
  refine SyP hW ?_
  refine SyP hW ?_
  exact SyN
 case e1 =>
  have HB1:=Lib.hid (hH.blk [0,1,2] [(w.heap.size,arr .u8 rs, 23),(w.heap.size+1,CC, 28),(w.heap.size+1+1,SC, 52)] (by decide) (by kernel_rfl))
  simp only [lay,Sy.at,den',Yr,Yv,Yp,Yq,Yn,Y0,Yw,Act.put,sA,sZ,sS,Nat.reduceAdd]
  clear hH HS1
  (try simp only [Exit.then])
  go_wp2_with fail
  go_ret
  exact ⟨rfl,HB1.out.below⟩
end Go.Proofs.YtodnkallpfkdiaaDoor.Ce
