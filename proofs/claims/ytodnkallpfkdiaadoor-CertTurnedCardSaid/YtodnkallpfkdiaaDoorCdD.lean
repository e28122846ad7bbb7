/- The document's SignCert: what it answers. Condition: 32 bytes, a signature's 64 bytes; the tables hold what their text lays. -/
import Derived.Test.YtodnkallpfkdiaaDoorCdC
import Derived.Test.YtodnkallpfkdiaaDoorRm
set_option maxRecDepth 100000
set_option maxHeartbeats 16000000
set_option linter.unusedSimpArgs false
set_option linter.unusedVariables false
namespace Go.Proofs.YtodnkallpfkdiaaDoor.Ce
open Go.RowKit Lm Fp Cu Sl Sc
theorem rsignCert_any {rs ks:List Int} (root key:Nat) (id:Int) (w:World) (hr:K32 rs root) (hk:K32 ks key) (hT:TabV w) :
  Calls Tryd.prog 24 #[.agg (arr .u8 rs), .int .i64 id, .agg (arr .u8 ks)] w fun e w'=>e = .returned (certV root key id)∧Below w.heap.size w w':=by
 have hct:=fun (u:World) (h:okI id=true)=>certText_any id key u hk (by simp only [okI,Bool.and_eq_true,decide_eq_true_eq] at h;omega)
 have htl:(certT id key).length≤1000000000:=by rw [certT_len];decide
 have htb:bytes (certT id key):=certT_bytes id key
 obtain ⟨gs,hgs⟩:∃ b,b=esign root (certT id key):=⟨_,rfl⟩
 have hgl:gs.length=64:=by rw [hgs,esign_len]
 have hsg:∀ (u:World) (v:Value),TabV u→isB (certT id key) u v→Calls Tryd.prog 57 #[.agg (arr .u8 rs),v] u fun e w'=>e = .returned (.agg (arr .u8 gs))∧Below u.heap.size u w':=by
  intro u v h1 h2
  obtain ⟨s,c,rfl,hc,hs⟩:=h2
  rw [hgs,show arr .u8 rs=arr .u8 (n32 root) by rw [n32,← hr.1]]
  exact Rd.rsign_any root s _ c u hs hc htb htl h1.d h1.x h1.y h1.q h1.k
 have hm:=fun w=>small_any id w
 have hcm:∀ u,TabV u→Calls Tryd.prog 37 #[.agg (arr .u8 ks)] u fun e w'=>e = .returned (.bool (eread key).isSome)∧Below u.heap.size u w':=by
  intro u h
  rw [show arr .u8 ks=arr .u8 (nar (dig 256 32 key)) by rw [← hk.1]]
  exact Rd.may_any key u (by have:=hk.2;rwa [show (256:Nat) ^ 32=2 ^ 256 by decide] at this) h.d h.i
 unfold certV
 rw [← hgs,show n32 key=ks from hk.1.symm]
 obtain ⟨B,hB⟩:∃ b,b=certT id key:=⟨_,rfl⟩
 rw [← hB] at hsg hct
 obtain ⟨zc,hzc⟩:∃ c,c=cert0:=⟨_,rfl⟩
 have hzs:cert0.size=97:=certC_size (by simp) (by simp)
 have hz1:cert0.all (·.oneCell')=true:=certC_one _ _ _
 have hz:∀ w,(zeroValue 28).run Tryd.prog w = .ok (.agg cert0) w:=fun w=>zero_cert w
 have hz0:∀ w,(Instr.build 28 #[]).run Tryd.prog w = .ok (.agg cert0) w:=fun w=>build_cert0 w
 rw [← hzc] at hzs hz1 hz hz0 ⊢
 obtain ⟨sc,hsc⟩:∃ c,c=certC id ks gs:=⟨_,rfl⟩
 have hss:=certC_size (id:=id) hgl hk.len
 have hs1:=certC_one id ks gs
 have hbl:=fun w=>build_cert id ks gs hk.len hgl w
 rw [← hsc] at hss hs1 hbl ⊢
 have HSG:=Lib.hid hsg
 have HCTX:=Lib.hid hct
 have HRL:=Lib.hid hr.len
 have HKL:=Lib.hid hk.len
 have HZS:=Lib.hid hzs
 have HZ1:=Lib.hid hz1
 have HZ:=Lib.hid hz
 have HZ0:=Lib.hid hz0
 have HSS:=Lib.hid hss
 have HS1c:=Lib.hid hs1
 have HBL:=Lib.hid hbl
 have HTT:=Lib.hid hT
 have HS0:=Lib.hid (Blk.three w (arr .u8 rs) (arr .u8 ks) zc 23 23 28)
 have HIZ:Hid ((Tryd.prog.info? 28).map (·.size)=some zc.size):=Lib.hid (by rw [hzs];exact size_cert)
 have HIS:Hid ((Tryd.prog.info? 28).map (·.size)=some sc.size):=Lib.hid (by rw [hss];exact size_cert)
 clear hsg hct hr hk hzs hz1 hz hz0 hss hs1 hbl hgl hgs hB hzc hsc htl htb hT
 cases hok:okI id with
 | false =>
  rw [hok] at hm
  have HM:=Lib.hid hm
  clear hm hcm
  go_enter Tryd.func24, Tryd.ntmps24
  go_wp2_with (first|((with_reducible refine aS 6 ?_);refine wpList_alloc_row rfl 28 rfl _ (HZ.out _) ?_)|((with_reducible show Calls _ 48 _ _ _);go_at_call 48; refine (HM.out _).mono ?_;rintro e w1 ⟨rfl,rfl⟩)|((with_reducible refine aS 12 ?_);refine wpList_build (by rfl) 28 _ rfl #[] rfl _ (HZ0.out _) ?_)|((with_reducible refine aT 6 ?_);refine wpList_store_whole rfl 28 _ _ rfl (w.heap.size+1+1) _ _ 28 (HS0.out.get 2 rfl) rfl rfl rfl HIZ.out HZ1.out ?_;intro w7 hb7 hk7 hz7;have HB7:=Lib.hid (HS0.out.put 2 rfl hk7 hb7);clear hb7 hk7 hz7))
  all_goals (try simp only [Exit.then])
  refine bodyPost_ret (results_cell_tmp_row rfl _ _ (w.heap.size+1+1) 28 _ (0,0) _ _ rfl (HB7.out.get 2 rfl) Tryd.underlying28 rfl HIZ.out rfl) rfl ?_
  exact ⟨by simp,HB7.out.below⟩
 | true =>
  rw [hok] at hm
  have HM:=Lib.hid hm
  clear hm
  cases hem:(eread key).isSome with
  | false =>
   rw [hem] at hcm
   have HCM:=Lib.hid hcm
   clear hcm
   go_enter Tryd.func24, Tryd.ntmps24
   go_wp2_with (first|((with_reducible refine aS 6 ?_);refine wpList_alloc_row rfl 28 rfl _ (HZ.out _) ?_)|((with_reducible show Calls _ 48 _ _ _);go_at_call 48; refine (HM.out _).mono ?_;rintro e w1 ⟨rfl,rfl⟩)|((with_reducible refine aS 13 ?_);refine wpList_load_part rfl 23 _ rfl (w.heap.size+1) 0 _ 23 (0,0) _ (HS0.out.get 1 rfl) rfl .u8 ks (arr_part _ _) Tryd.underlying23 rfl (num_i HKL.out) ?_)|((with_reducible show Calls _ 37 _ _ _);go_at_call 37; refine (HCM.out _ (HTT.out.below HS0.out.below)).mono ?_;rintro e w2 ⟨rfl,hb⟩;have HS1:=Lib.hid (HS0.out.kept hb);clear hb)|((with_reducible refine aS 17 ?_);refine wpList_build (by rfl) 28 _ rfl #[] rfl _ (HZ0.out _) ?_)|((with_reducible refine aT 6 ?_);refine wpList_store_whole rfl 28 _ _ rfl (w.heap.size+1+1) _ _ 28 (HS1.out.get 2 rfl) rfl rfl rfl HIZ.out HZ1.out ?_;intro w7 hb7 hk7 hz7;have HB7:=Lib.hid (HS1.out.put 2 rfl hk7 hb7);clear hb7 hk7 hz7))
   all_goals (try simp only [Exit.then])
   refine bodyPost_ret (results_cell_tmp_row rfl _ _ (w.heap.size+1+1) 28 _ (0,0) _ _ rfl (HB7.out.get 2 rfl) Tryd.underlying28 rfl HIZ.out rfl) rfl ?_
   exact ⟨by simp,HB7.out.below⟩
  | true =>
   rw [hem] at hcm
   have HCM:=Lib.hid hcm
   clear hcm
   go_enter Tryd.func24, Tryd.ntmps24
   go_upto_region 6 with (first|((with_reducible refine aS 6 ?_);refine wpList_alloc_row rfl 28 rfl _ (HZ.out _) ?_)|((with_reducible show Calls _ 48 _ _ _);go_at_call 48; refine (HM.out _).mono ?_;rintro e w1 ⟨rfl,rfl⟩)|((with_reducible refine aS 13 ?_);refine wpList_load_part rfl 23 _ rfl (w.heap.size+1) 0 _ 23 (0,0) _ (HS0.out.get 1 rfl) rfl .u8 ks (arr_part _ _) Tryd.underlying23 rfl (num_i HKL.out) ?_)|((with_reducible show Calls _ 37 _ _ _);go_at_call 37; refine (HCM.out _ (HTT.out.below HS0.out.below)).mono ?_;rintro e w2 ⟨rfl,hb⟩;have HS1:=Lib.hid (HS0.out.kept hb);clear hb))
   (try simp only [World.size_alloc,Act.put,sA,sZ,sS])
   (try clear HS0)
   refine wp_region_sym (T:=fun _=>False) (w:=w) (sy:=[Yv (.int .i64 id),Yr .u8 ks,Yr .u8 rs,Yv (.int .i64 id),Yr .u8 ks,Yw (isB B) isB.below,Yr .u8 gs,Yv (.agg sc),Y0,Yv (.int .i64 0)]) (pt:=[(8,2,cel sc 28)]) (by kernel_rfl) (by kernel_rfl) (by kernel_rfl) HS1.out.holds (fun hW=>?s1) (fun q1 x1 u1 _ hH=>?e1)
   case s1 =>
    refine SyP hW ?_
    refine SyL hW ?_ 1 0 (arr .u8 ks) 23 rowN HKL.out (arr_part _ _)
    refine SyL hW ?_ 0 0 (arr .u8 rs) 23 rowN HRL.out (arr_part _ _)
    refine SyP hW ?_
    refine SyL hW ?_ 1 0 (arr .u8 ks) 23 rowN HKL.out (arr_part _ _)
    refine SyCw hW ?_ (vs:=[.int .i64 id, .agg (arr .u8 ks)]) (fun u _=>(HCTX.out u hok).mono (by rintro e w' ⟨v,rfl,ho,hb⟩;exact ⟨v,rfl,isB.own ho,hb⟩))
    refine SyCv hW ?_ (xs:=[.tmp 20]) (vs:=[.agg (arr .u8 rs)]) 5 (fun u v k h=>HSG.out u v (HTT.out.below (kept_below k)) h)
    refine SyB hW ?_ _ _ [(0, .int .i64 id),(1, .agg (arr .u8 ks)),(2, .agg (arr .u8 gs))] (fun u=>HBL.out u)
    refine SySa hW ?_ 2 zc 28 size_cert HZS.out HSS.out HS1c.out
    refine SyP hW ?_
    exact SyN
   case e1 =>
    have HB1:=Lib.hid (hH.blk [0,1,2] [(w.heap.size,arr .u8 rs, 23),(w.heap.size+1,arr .u8 ks, 23),(w.heap.size+1+1,sc, 28)] (by decide) (by kernel_rfl))
    simp only [lay,Sy.at,den',Yr,Yv,Yp,Yq,Yn,Y0,Yw,Act.put,sA,sZ,sS,Nat.reduceAdd]
    clear hH HS1
    (try simp only [Exit.then])
    go_wp2_with fail
    refine bodyPost_ret (results_cell_tmp_row rfl _ _ (w.heap.size+1+1) 28 _ (0,0) _ _ rfl (HB1.out.get 2 rfl) Tryd.underlying28 rfl HIS.out rfl) rfl ?_
    exact ⟨by simp,HB1.out.below⟩
end Go.Proofs.YtodnkallpfkdiaaDoor.Ce
