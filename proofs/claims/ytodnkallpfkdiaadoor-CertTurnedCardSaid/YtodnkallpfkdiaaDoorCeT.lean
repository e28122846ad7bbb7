/- portcullislaw16.CertTurned: it answers true. Condition: the arguments' sizes; the tables hold what their text lays. -/
import Derived.Deep.DeepCutAuto
import Derived.Deep.CutBlock
import Derived.Test.YtodnkallpfkdiaaDoorCdD
import Derived.Test.YtodnkallpfkdiaaDoorCeQ
set_option maxRecDepth 100000
set_option maxHeartbeats 16000000
set_option linter.unusedSimpArgs false
set_option linter.unusedVariables false
namespace Go.Proofs.YtodnkallpfkdiaaDoor.Ce
open Go.RowKit Lm Fp Cu Sl Sc
theorem certC_gs {id:Int} {ks gs:List Int} {i:Nat} (hk:ks.length=32) (h:i < gs.length):(certC id ks gs)[33+i]? = some (.int .u8 (gs.getD i 0)):=by
 rw [certC,Array.getElem?_append_right (by simp [arr,hk])]
 simp [arr,hk,List.getD,h,show 33+i - (32+1)=i by omega]
theorem certC_set0 (id x:Int) (ks gs:List Int):(certC id ks gs).setIfInBounds 0 (.int .i64 x)=certC x ks gs:=by
 apply Array.ext'
 simp [certC]
theorem certC_set1 {id:Int} {ks gs:List Int} {k:Nat} (y:Int) (h:k < ks.length):(certC id ks gs).setIfInBounds (1+k) (.int .u8 y)=certC id (ks.set k y) gs:=by
 apply Array.ext'
 simp only [certC,Array.toList_setIfInBounds,Array.toList_append,arr,List.append_assoc]
 rw [show 1+k=k+1 by omega]
 simp only [List.cons_append,List.nil_append,List.set_cons_succ]
 rw [List.set_append_left _ _ (by simp [h]),List.map_set]
theorem certC_set2 {id:Int} {ks gs:List Int} {k:Nat} (y:Int) (hk:ks.length=32):(certC id ks gs).setIfInBounds (33+k) (.int .u8 y)=certC id ks (gs.set k y):=by
 apply Array.ext'
 simp only [certC,Array.toList_setIfInBounds,Array.toList_append,arr,List.append_assoc]
 rw [show 33+k=(32+k)+1 by omega]
 simp only [List.cons_append,List.nil_append,List.set_cons_succ]
 rw [List.set_append_right _ _ (by simp [hk]),List.map_set]
 simp [hk,show 32+k - 32=k by omega]
theorem stopC_set0 (id x:Int) (gs:List Int):(stopC id gs).setIfInBounds 0 (.int .i64 x)=stopC x gs:=by
 apply Array.ext'
 simp [stopC]
theorem stopC_set1 {id:Int} {gs:List Int} {k:Nat} (y:Int):(stopC id gs).setIfInBounds (1+k) (.int .u8 y)=stopC id (gs.set k y):=by
 apply Array.ext'
 simp only [stopC,Array.toList_setIfInBounds,Array.toList_append,arr]
 rw [show 1+k=k+1 by omega]
 simp [List.map_set]
theorem xor_u8 (a b:Int):0≤bits .xor .u8 a b∧bits .xor .u8 a b≤255:=by
 show 0≤IntKind.u8.wrap _∧IntKind.u8.wrap _≤255
 rw [IntKind.wrap_u8]
 omega
theorem bytes_set {xs:List Int} (h:bytes xs) (k:Nat) {v:Int} (hv:0≤v∧v≤255):bytes (xs.set k v):=by
 intro x hx
 rcases List.mem_or_eq_of_mem_set hx with h1|rfl
 ·exact h x h1
 ·exact hv
theorem bytes_rep (n:Nat):bytes (List.replicate n 0):=by
 intro x hx
 have:=List.eq_of_mem_replicate hx
 subst this
 decide
theorem certV_form (root key:Nat) (id:Int) (h:0≤id∧id≤1073741824):∃ (i E:Int) (ks gs:List Int),certV root key id = .tuple #[.agg (certC i ks gs), .int .i64 E]∧ks.length=32∧bytes ks∧gs.length=64∧bytes gs∧(0≤i∧i≤1073741824):=by
 unfold certV
 by_cases h1:okI id=true
 ·rw [if_pos h1]
  by_cases h2:(eread key).isSome=true
  ·rw [if_pos h2]
   exact ⟨id,0,_,_,rfl,n32_len _,n32_bytes _,esign_len _ _,esign_bytes _ _,h⟩
  ·rw [if_neg h2]
   exact ⟨0,21,_,_,rfl,by simp,bytes_rep _,by simp,bytes_rep _,by decide⟩
 ·rw [if_neg h1]
  exact ⟨0,1,_,_,rfl,by simp,bytes_rep _,by simp,bytes_rep _,by decide⟩
theorem stopV_form (root:Nat) (id:Int) (h:0≤id∧id≤1073741824):∃ (i E:Int) (gs:List Int),stopV root id = .tuple #[.agg (stopC i gs), .int .i64 E]∧gs.length=64∧bytes gs∧(0≤i∧i≤1073741824):=by
 unfold stopV
 by_cases h1:okI id=true
 ·rw [if_pos h1]
  exact ⟨id,0,_,rfl,esign_len _ _,esign_bytes _ _,h⟩
 ·rw [if_neg h1]
  exact ⟨0,1,_,rfl,by simp,bytes_rep _,by decide⟩
theorem turned_neg {rs:List Int} (id wh at' by':Int) (w:World) (hT:TabV w) (h:id < 0) :
  Calls Tryd.prog 7 #[.agg (arr .u8 rs), .int .i64 id, .int .i64 wh, .int .i64 at', .int .u8 by'] w fun e w'=>e = .returned (.bool true)∧Below w.heap.size w w':=by
 have HAL:=Lib.hid (fun (u:World) (h:TabV u)=>alive16_any u h.toTabP)
 have HT:=Lib.hid hT
 have HS0:=Lib.hid (Blk.one w (arr .u8 rs) 23)
 clear hT
 go_enter Tryd.func7, Tryd.ntmps7
 go_wp2_with ((with_reducible show Calls _ 22 _ _ _);go_at_call 22; refine (HAL.out _ (HT.out.below HS0.out.below)).mono ?_;rintro e w1 ⟨rfl,hb1⟩;have HS1:=Lib.hid (HS0.out.kept hb1);clear hb1)
 (try simp only [Exit.then])
 go_ret
 exact ⟨rfl,HS1.out.below⟩
theorem turned_big {rs:List Int} (id wh at' by':Int) (w:World) (hT:TabV w) (h0:¬ id < 0) (h:1073741824 < id) :
  Calls Tryd.prog 7 #[.agg (arr .u8 rs), .int .i64 id, .int .i64 wh, .int .i64 at', .int .u8 by'] w fun e w'=>e = .returned (.bool true)∧Below w.heap.size w w':=by
 have HAL:=Lib.hid (fun (u:World) (h:TabV u)=>alive16_any u h.toTabP)
 have HT:=Lib.hid hT
 have HS0:=Lib.hid (Blk.one w (arr .u8 rs) 23)
 clear hT
 go_enter Tryd.func7, Tryd.ntmps7
 go_wp2_with ((with_reducible show Calls _ 22 _ _ _);go_at_call 22; refine (HAL.out _ (HT.out.below HS0.out.below)).mono ?_;rintro e w1 ⟨rfl,hb1⟩;have HS1:=Lib.hid (HS0.out.kept hb1);clear hb1)
 (try simp only [Exit.then])
 go_ret
 exact ⟨rfl,HS1.out.below⟩
theorem turned_at {rs:List Int} (id wh at' by':Int) (w:World) (hT:TabV w) (h0:¬ id < 0) (h1:¬ 1073741824 < id) (h:at' < 0) :
  Calls Tryd.prog 7 #[.agg (arr .u8 rs), .int .i64 id, .int .i64 wh, .int .i64 at', .int .u8 by'] w fun e w'=>e = .returned (.bool true)∧Below w.heap.size w w':=by
 have HAL:=Lib.hid (fun (u:World) (h:TabV u)=>alive16_any u h.toTabP)
 have HT:=Lib.hid hT
 have HS0:=Lib.hid (Blk.one w (arr .u8 rs) 23)
 clear hT
 go_enter Tryd.func7, Tryd.ntmps7
 go_wp2_with ((with_reducible show Calls _ 22 _ _ _);go_at_call 22; refine (HAL.out _ (HT.out.below HS0.out.below)).mono ?_;rintro e w1 ⟨rfl,hb1⟩;have HS1:=Lib.hid (HS0.out.kept hb1);clear hb1)
 (try simp only [Exit.then])
 go_ret
 exact ⟨rfl,HS1.out.below⟩
theorem turned_by {rs:List Int} (id wh at' by':Int) (w:World) (hT:TabV w) (h0:¬ id < 0) (h1:¬ 1073741824 < id) (h2:¬ at' < 0) (h:by'=0) :
  Calls Tryd.prog 7 #[.agg (arr .u8 rs), .int .i64 id, .int .i64 wh, .int .i64 at', .int .u8 by'] w fun e w'=>e = .returned (.bool true)∧Below w.heap.size w w':=by
 have HAL:=Lib.hid (fun (u:World) (h:TabV u)=>alive16_any u h.toTabP)
 have HT:=Lib.hid hT
 have HS0:=Lib.hid (Blk.one w (arr .u8 rs) 23)
 clear hT
 go_enter Tryd.func7, Tryd.ntmps7
 go_wp2_with ((with_reducible show Calls _ 22 _ _ _);go_at_call 22; refine (HAL.out _ (HT.out.below HS0.out.below)).mono ?_;rintro e w1 ⟨rfl,hb1⟩;have HS1:=Lib.hid (HS0.out.kept hb1);clear hb1)
 (try simp only [Exit.then])
 go_ret
 exact ⟨rfl,HS1.out.below⟩
theorem turned_core {rs:List Int} (root I:Nat) (id wh by':Int) (w:World) (hr:K32 rs root) (hT:TabV w) (hid:0≤id∧id≤1073741824) (hb0:¬ by'=0) :
  Calls Tryd.prog 7 #[.agg (arr .u8 rs), .int .i64 id, .int .i64 wh, .int .i64 (I:Int), .int .u8 by'] w fun e w'=>e = .returned (.bool true)∧Below w.heap.size w w':=by
 have hal:=fun (u:World) (h:TabV u)=>alive16_any u h.toTabP
 have g0:¬ id < 0:=by omega
 have g1:¬ 1073741824 < id:=by omega
 have g2:¬ ((I:Int) < 0):=by omega
 have hi64:((I:Int)).tmod 64=((I % 64:Nat):Int):=by rw [Int.tmod_eq_emod_of_nonneg (by omega)];omega
 have hi32:((I:Int)).tmod 32=((I % 32:Nat):Int):=by rw [Int.tmod_eq_emod_of_nonneg (by omega)];omega
 have hpb:∀ u,TabV u→Calls Tryd.prog 27 #[.agg (arr .u8 rs)] u fun e w'=>e = .returned (.agg (arr .u8 (n32 (epub root))))∧Below u.heap.size u w':=by
  intro u h
  rw [show arr .u8 rs=arr .u8 (n32 root) by rw [n32,← hr.1]]
  exact pub_any root u h.toTabP
 have hs1:=fun (u:World) (h:TabV u)=>rsignCert_any root (epub root) id u hr (k32_pub root) h
 have hs2:=fun (u:World) (h:TabV u)=>rstop_any root id u hr h.s
 obtain ⟨i0,E,ks,gs,hV,hk1,hk2,hg1,hg2,hi0⟩:=certV_form root (epub root) id hid
 obtain ⟨j0,F,hs,hV2,hh1,hh2,hj0⟩:=stopV_form root id hid
 rw [hV] at hs1
 rw [hV2] at hs2
 have hkp:=k32_pub root
 obtain ⟨pl,hpl⟩:∃ x,x=n32 (epub root):=⟨_,rfl⟩
 rw [← hpl] at hpb hs1 hkp
 obtain ⟨zc,hzc⟩:∃ c,c=cert0:=⟨_,rfl⟩
 have hzs:cert0.size=97:=certC_size (by simp) (by simp)
 have hz:∀ w,(zeroValue 28).run Tryd.prog w = .ok (.agg cert0) w:=fun w=>zero_cert w
 rw [← hzc] at hzs hz
 obtain ⟨zt,hzt⟩:∃ c,c=stopC 0 (List.replicate 64 0):=⟨_,rfl⟩
 have hzts:=stopC_size (id:=0) (gs:=List.replicate 64 0) (by simp)
 have hzz:=fun w=>zero_stop w
 rw [← hzt] at hzts hzz
 obtain ⟨zn,hzn⟩:∃ zs:List Int,zs=List.replicate 32 0:=⟨_,rfl⟩
 have HZN:Hid (∀ w,(zeroValue 23).run Tryd.prog w = .ok (.agg (arr .u8 zn)) w):=Lib.hid (by intro w;rw [hzn];exact Rd.zero_num w)
 have HLzn:Hid (zn.length=32):=Lib.hid (by rw [hzn];rfl)
 have HAL:=Lib.hid hal
 have HPB:=Lib.hid hpb
 have HG1:=Lib.hid hs1
 have HG2:=Lib.hid hs2
 have HKP:=Lib.hid hkp
 have HZ:=Lib.hid hz
 have HZT:=Lib.hid hzz
 have HSZ:Hid ((certC i0 ks gs).size=zc.size):=Lib.hid (by rw [certC_size hg1 hk1,hzs])
 have HXI:Hid ((Tryd.prog.info? 28).map (·.size)=some (certC i0 ks gs).size):=Lib.hid (by rw [certC_size hg1 hk1];exact size_cert)
 have HXO:=Lib.hid (certC_one i0 ks gs)
 have HSZ2:Hid ((stopC j0 hs).size=zt.size):=Lib.hid (by rw [stopC_size hh1,hzts])
 have HXI2:Hid ((Tryd.prog.info? 52).map (·.size)=some (stopC j0 hs).size):=Lib.hid (by rw [stopC_size hh1];exact size_stop)
 have HXO2:=Lib.hid (stopC_one j0 hs)
 have HRL:=Lib.hid hr.len
 have HPL:=Lib.hid hkp.len
 have HT:=Lib.hid hT
 have HS0:=Lib.hid (Blk.one w (arr .u8 rs) 23)
 have HF1:Hid ((ks.length=32∧bytes ks)∧(gs.length=64∧bytes gs)∧(hs.length=64∧bytes hs)):=Lib.hid ⟨⟨hk1,hk2⟩,⟨hg1,hg2⟩,⟨hh1,hh2⟩⟩
 have hb0':(by' == 0)=false:=by rw [beq_eq_false_iff_ne];exact hb0
 clear hal hpb hs1 hs2 hkp hz hzz hzs hzts hr hT hzc hzt hzn hpl hV hV2 hk1 hk2 hg1 hg2 hh1 hh2 hid
 go_enter Tryd.func7, Tryd.ntmps7
 go_upto_region 2 with ((with_reducible show Calls _ 22 _ _ _);go_at_call 22; refine (HAL.out _ (HT.out.below HS0.out.below)).mono ?_;rintro e w1 ⟨rfl,hb1⟩;have HS1:=Lib.hid (HS0.out.kept hb1);clear hb1)
 (try simp only [World.size_alloc,Act.put,sA,sZ,sS])
 go_upto_region 5 with (first|((with_reducible refine aS 37 ?_);refine wpList_load_part rfl 23 _ rfl (w.heap.size) 0 _ 23 (0,0) _ (HS1.out.get 0 rfl) rfl .u8 rs (arr_part _ _) Tryd.underlying23 rfl (Sl.num_i HRL.out) ?_)|((with_reducible show Calls _ 27 _ _ _);go_at_call 27; refine (HPB.out _ (HT.out.below HS1.out.below)).mono ?_;rintro e w2 ⟨rfl,hb⟩;have HS2:=Lib.hid (HS1.out.kept hb);clear hb)|((with_reducible refine aS 12 ?_);refine wpList_alloc_row rfl 23 rfl _ (HZN.out _) ?_;have HS3:=Lib.hid (HS2.out.alloc (arr .u8 zn) 23);generalize w2.heap.size=g12 at HS3 ⊢; generalize w2.alloc (.cells (arr .u8 zn) 23)=w3 at HS3 ⊢)|((with_reducible refine aT 12 ?_);refine wpList_store_whole rfl 23 _ _ rfl (g12) _ _ 23 (HS3.out.get 1 rfl) rfl rfl (arr_len2 _ _ HPL.out HLzn.out) (Sl.num_s HPL.out) (all_arr _ _) ?_;intro w4 hb hk hz;have HS4:=Lib.hid (HS3.out.put 1 rfl hk hb);clear hb hk hz))
 (try simp only [World.size_alloc,Act.put,sA,sZ,sS])
 go_upto_region 6 with (first|((with_reducible refine aS 40 ?_);refine wpList_load_part rfl 23 _ rfl (w.heap.size) 0 _ 23 (0,0) _ (HS4.out.get 0 rfl) rfl .u8 rs (arr_part _ _) Tryd.underlying23 rfl (Sl.num_i HRL.out) ?_)|((with_reducible refine aS 42 ?_);refine wpList_load_part rfl 23 _ rfl (g12) 0 _ 23 (0,0) _ (HS4.out.get 1 rfl) rfl .u8 pl (arr_part _ _) Tryd.underlying23 rfl (Sl.num_i HPL.out) ?_)|((with_reducible show Calls _ 24 _ _ _);go_at_call 24; refine (HG1.out _ (HT.out.below HS4.out.below)).mono ?_;rintro e w5 ⟨rfl,hb⟩;have HS5:=Lib.hid (HS4.out.kept hb);clear hb)|((with_reducible refine aS 13 ?_);refine wpList_alloc_row rfl 28 rfl _ (HZ.out _) ?_;have HS6:=Lib.hid (HS5.out.alloc (zc) 28);generalize w5.heap.size=g13 at HS6 ⊢; generalize w5.alloc (.cells (zc) 28)=w6 at HS6 ⊢)|((with_reducible refine aT 13 ?_);refine wpList_store_whole rfl 28 _ _ rfl (g13) _ _ 28 (HS6.out.get 2 rfl) rfl rfl HSZ.out HXI.out HXO.out ?_;intro w7 hb hk hz;have HS7:=Lib.hid (HS6.out.put 2 rfl hk hb);clear hb hk hz))
 (try simp only [World.size_alloc,Act.put,sA,sZ,sS])
 go_upto_region 7 with (first|((with_reducible refine aS 47 ?_);refine wpList_load_part rfl 23 _ rfl (w.heap.size) 0 _ 23 (0,0) _ (HS7.out.get 0 rfl) rfl .u8 rs (arr_part _ _) Tryd.underlying23 rfl (Sl.num_i HRL.out) ?_)|((with_reducible show Calls _ 31 _ _ _);go_at_call 31; refine (HG2.out _ (HT.out.below HS7.out.below)).mono ?_;rintro e w8 ⟨rfl,hb⟩;have HS8:=Lib.hid (HS7.out.kept hb);clear hb)|((with_reducible refine aS 15 ?_);refine wpList_alloc_row rfl 52 rfl _ (HZT.out _) ?_;have HS9:=Lib.hid (HS8.out.alloc (zt) 52);generalize w8.heap.size=g15 at HS9 ⊢; generalize w8.alloc (.cells (zt) 52)=w9 at HS9 ⊢)|((with_reducible refine aT 15 ?_);refine wpList_store_whole rfl 52 _ _ rfl (g15) _ _ 52 (HS9.out.get 3 rfl) rfl rfl HSZ2.out HXI2.out HXO2.out ?_;intro w10 hb hk hz;have HS10:=Lib.hid (HS9.out.put 3 rfl hk hb);clear hb hk hz))
 (try simp only [World.size_alloc,Act.put,sA,sZ,sS])
 have HB0:Hid (Blk w w10 [(w.heap.size,arr .u8 rs, 23),(g12,arr .u8 pl, 23),(g13,certC i0 ks gs, 28),(g15,stopC j0 hs, 52)]):=Lib.hid (HS10.out.cast rfl)
 go_upto_block 0 with fail
 go_cut [53,63,87,100] (fun _x53 _x63 _x87 _x100 wx=>∃ (i j:Int) (ka ga ha:List Int),(ka.length=32∧bytes ka)∧(ga.length=64∧bytes ga)∧(ha.length=64∧bytes ha)∧Blk w wx [(w.heap.size,arr .u8 rs, 23),(g12,arr .u8 pl, 23),(g13,certC i ka ga, 28),(g15,stopC j ha, 52)])
 case first =>
  obtain ⟨f1,f2,f3⟩:=HF1.out
  by_cases hw0:wh=0
  ·subst hw0
   have c0:w10.cell? ⟨g13,0,none⟩=some (.int .i64 i0):=by rw [cell_blk (HB0.out.get 2 rfl)];exact certC_id _ _ _
   have c1:=free_blk (HB0.out.get 2 rfl) 0
   go_upto_region 10 with fail
   obtain ⟨w91,hw91⟩:∃ x,x=w10.setCell ⟨g13,0,none⟩ (.int .i64 (i0+1)):=⟨_,rfl⟩
   rw [← hw91]
   have hb1:Blk w w91 [(w.heap.size,arr .u8 rs, 23),(g12,arr .u8 pl, 23),(g13,certC (i0+1) ks gs, 28),(g15,stopC j0 hs, 52)]:=by rw [hw91];exact (HB0.out.cell 2 rfl 0 _).cast (by rw [certC_set0];rfl)
   clear hw91 c0 c1
   have c0:w91.cell? ⟨g15,0,none⟩=some (.int .i64 j0):=by rw [cell_blk (hb1.get 3 rfl)];exact stopC_id _ _
   have c1:=free_blk (hb1.get 3 rfl) 0
   have HB1:=Lib.hid hb1
   clear hb1
   go_wp2_with fail
   go_meet
   exact ⟨_,_,_,_,_,f1,f2,f3,(HB1.out.cell 3 rfl 0 _).cast (by rw [stopC_set0];rfl)⟩
  ·have w0':(wh == 0)=false:=by rw [beq_eq_false_iff_ne];exact hw0
   by_cases hw1:wh=1
   ·subst hw1
    have hm:=Nat.mod_lt I (show 0 < 64 by decide)
    generalize I % 64=k at hi64 hm
    have c0:w10.cell? ⟨g13,33+k,none⟩=some (.int .u8 (gs.getD k 0)):=by rw [cell_blk (HB0.out.get 2 rfl)];exact certC_gs f1.1 (by rw [f2.1];exact hm)
    have c1:=free_blk (HB0.out.get 2 rfl) (33+k)
    generalize gs.getD k 0=y at c0
    go_upto_region 13 with fail
    obtain ⟨w91,hw91⟩:∃ x,x=w10.setCell ⟨g13,33+k,none⟩ (.int .u8 (bits .xor .u8 y by')):=⟨_,rfl⟩
    rw [← hw91]
    have hb1:Blk w w91 [(w.heap.size,arr .u8 rs, 23),(g12,arr .u8 pl, 23),(g13,certC i0 ks (gs.set k (bits .xor .u8 y by')), 28),(g15,stopC j0 hs, 52)]:=by rw [hw91];exact (HB0.out.cell 2 rfl (33+k) _).cast (by rw [certC_set2 _ f1.1];rfl)
    clear hw91 c0 c1
    have c0:w91.cell? ⟨g15,1+k,none⟩=some (.int .u8 (hs.getD k 0)):=by rw [cell_blk (hb1.get 3 rfl)];exact stopC_gs (by rw [f3.1];exact hm)
    have c1:=free_blk (hb1.get 3 rfl) (1+k)
    generalize hs.getD k 0=y2 at c0
    have HB1:=Lib.hid hb1
    clear hb1
    go_wp2_with fail
    go_meet
    exact ⟨i0,j0,ks,gs.set k (bits .xor .u8 y by'),hs.set k (bits .xor .u8 y2 by'),f1,⟨by rw [List.length_set];exact f2.1,bytes_set f2.2 _ (xor_u8 _ _)⟩,⟨by rw [List.length_set];exact f3.1,bytes_set f3.2 _ (xor_u8 _ _)⟩,(HB1.out.cell 3 rfl (1+k) (.int .u8 (bits .xor .u8 y2 by'))).cast (by rw [stopC_set1];rfl)⟩
   ·have w1':(wh == 1)=false:=by rw [beq_eq_false_iff_ne];exact hw1
    by_cases hw2:wh=2
    ·subst hw2
     have hm:=Nat.mod_lt I (show 0 < 32 by decide)
     generalize I % 32=k at hi32 hm
     have hk:k < ks.length:=by rw [f1.1];exact hm
     have c0:w10.cell? ⟨g13,1+k,none⟩=some (.int .u8 (ks.getD k 0)):=by rw [cell_blk (HB0.out.get 2 rfl)];exact certC_ks hk
     have c1:=free_blk (HB0.out.get 2 rfl) (1+k)
     generalize ks.getD k 0=y at c0
     have HK:=Lib.hid hk
     clear hk
     go_wp2_with fail
     go_meet
     exact ⟨i0,j0,ks.set k (bits .xor .u8 y by'),gs,hs,⟨by rw [List.length_set];exact f1.1,bytes_set f1.2 _ (xor_u8 _ _)⟩,f2,f3,(HB0.out.cell 2 rfl (1+k) (.int .u8 (bits .xor .u8 y by'))).cast (by rw [certC_set1 _ HK.out];rfl)⟩
    ·have w2':(wh == 2)=false:=by rw [beq_eq_false_iff_ne];exact hw2
     by_cases hw3:wh=3
     ·subst hw3
      have hsp:=stopC_sig j0 hs
      have hcs:(certC i0 ks gs).size=97:=certC_size f2.1 f1.1
      have hst:((certC i0 ks gs).toList.take 33 ++ (arr .u8 hs).toList ++ (certC i0 ks gs).toList.drop (33+(arr .u8 hs).size)).toArray=certC i0 ks hs:=by
       apply Array.ext'
       simp [certC,arr,f1.1,f2.1,f3.1,List.take_append,List.drop_append,List.take_of_length_le,List.drop_of_length_le]
      have HSP:=Lib.hid hsp
      have HHL:=Lib.hid f3.1
      have HCS:=Lib.hid hcs
      have HST:=Lib.hid hst
      clear hsp hcs hst
      go_wp2_with (first|((with_reducible refine aS 103 ?_);refine wpList_load_part rfl 26 _ rfl g15 1 _ 52 (0,0) _ (HB0.out.get 3 rfl) rfl .u8 hs HSP.out Tryd.underlying26 rfl (Sl.sig_i HHL.out) ?_)|((with_reducible refine aT 104 ?_);refine wpList_store_part rfl 26 _ _ rfl g13 33 _ (arr .u8 hs) 28 (HB0.out.get 2 rfl) rfl rfl (by rw [HCS.out,arr_size,HHL.out];decide) (Sl.sig_s HHL.out) (all_arr _ _) ?_;intro w91 hb hk hz;rw [HST.out] at hb;have HB1:=Lib.hid (HB0.out.put 2 rfl hk hb);clear hb hk hz))
      go_meet
      exact ⟨_,_,_,_,_,f1,f3,f3,HB1.out⟩
     ·have w3':(wh == 3)=false:=by rw [beq_eq_false_iff_ne];exact hw3
      go_wp2_with fail
      go_meet
      exact ⟨_,_,_,_,_,f1,f2,f3,HB0.out⟩
 case rest =>
 obtain ⟨wy,rfl⟩:∃ x:World,x=wc:=⟨_,rfl⟩
 obtain ⟨i,j,ka,ga,ha,⟨hk1,hk2⟩,⟨hg1,hg2⟩,⟨hh1,hh2⟩,hB⟩:=hcut
 have hK:K32 ka (hnum ka):=⟨(n32_hnum hk2 hk1).symm,by have h:=hnum_lt (xs:=ka) hk2;rwa [hk1] at h⟩
 have hc1:=fun (u:World)=>check_any (epub root) (hnum ka) i u HKP.out hK hg1 hg2
 have hc2:=fun (u:World) (h:TabV u)=>rcheck_any (epub root) (hnum ka) i u HKP.out hK hg1 hg2 h
 have hp1:=fun (u:World)=>checkStop_any (epub root) j u HKP.out hh1 hh2
 have hp2:=fun (u:World) (h:TabV u)=>rcheckStop_any (epub root) j u HKP.out hh1 hh2 h
 generalize (okI i && ver (epub root) ga (certT i (hnum ka)))=c1 at hc1 hc2
 generalize (okI j && ver (epub root) ha (stopT j))=c2 at hp1 hp2
 have HCI:Hid ((Tryd.prog.info? 28).map (·.size)=some (certC i ka ga).size):=Lib.hid (by rw [certC_size hg1 hk1];exact size_cert)
 have HSI:Hid ((Tryd.prog.info? 52).map (·.size)=some (stopC j ha).size):=Lib.hid (by rw [stopC_size hh1];exact size_stop)
 generalize certC i ka ga=CC at hc1 hc2 HCI hB
 generalize stopC j ha=SC at hp1 hp2 HSI hB
 have HC1:=Lib.hid hc1
 have HC2:=Lib.hid hc2
 have HP1:=Lib.hid hp1
 have HP2:=Lib.hid hp2
 have HSY:=Lib.hid hB
 clear hc1 hc2 hp1 hp2 hB hK hk1 hk2 hg1 hg2 hh1 hh2
 go_upto_region 18 with fail
 refine wp_region_sym (T:=fun _=>False) (w:=w) (sy:=[Yr .u8 pl,Yv (.agg CC),Yv (.bool c1),Yr .u8 pl,Yv (.agg CC),Yv (.bool c1),Yv (.bool true),Yv (.bool true),Yr .u8 pl,Yv (.agg SC),Yv (.bool c2),Yr .u8 pl,Yv (.agg SC),Yv (.bool c2),Yv (.bool true),Yv (.bool true),Yv (.bool true)]) (pt:=[]) (by kernel_rfl) (by kernel_rfl) (by kernel_rfl) HSY.out.holds (fun hW=>?s1) (fun q1 x1 u1 _ hH=>?e1)
 case s1 =>
  refine SyL hW ?_ 1 0 (arr .u8 pl) 23 rowN HPL.out (arr_part _ _)
  refine SyLa hW ?_ 2 0 CC 28 (all_of CC) Tryd.underlying28 rfl HCI.out
  refine SyD hW ?_ (vs:=[.agg (arr .u8 pl), .agg CC]) (fun u _=>HC1.out u)
  refine SyL hW ?_ 1 0 (arr .u8 pl) 23 rowN HPL.out (arr_part _ _)
  refine SyLa hW ?_ 2 0 CC 28 (all_of CC) Tryd.underlying28 rfl HCI.out
  refine SyD hW ?_ (vs:=[.agg (arr .u8 pl), .agg CC]) (fun u k=>HC2.out u (HT.out.below (kept_below k)))
  refine SyX hW ?_ [.tmp 107, .tmp 110] [.bool c1, .bool c1] (fun ρ u _ e=>exec_eqlb rfl e u)
  refine SyP hW ?_
  refine SyU (SyL hW ?_ 1 0 (arr .u8 pl) 23 rowN HPL.out (arr_part _ _))
  refine SyU (SyLa hW ?_ 3 0 SC 52 (all_of SC) Tryd.underlying52 rfl HSI.out)
  refine SyU (SyD hW ?_ (vs:=[.agg (arr .u8 pl), .agg SC]) (fun u _=>HP1.out u))
  refine SyU (SyL hW ?_ 1 0 (arr .u8 pl) 23 rowN HPL.out (arr_part _ _))
  refine SyU (SyLa hW ?_ 3 0 SC 52 (all_of SC) Tryd.underlying52 rfl HSI.out)
  refine SyU (SyD hW ?_ (vs:=[.agg (arr .u8 pl), .agg SC]) (fun u k=>HP2.out u (HT.out.below (kept_below k))))
  refine SyU (SyX hW ?_ [.tmp 115, .tmp 118] [.bool c2, .bool c2] (fun ρ u _ e=>exec_eqlb rfl e u))
  refine SyP hW ?_
  refine SyP hW ?_
  exact SyN
 case e1 =>
  have HB1:=Lib.hid (hH.blk [0,1,2,3] [(w.heap.size,arr .u8 rs, 23),(g12,arr .u8 pl, 23),(g13,CC, 28),(g15,SC, 52)] (by decide) (by kernel_rfl))
  simp only [lay,Sy.at,den',Yr,Yv,Yp,Yq,Yn,Y0,Yw,Act.put,sA,sZ,sS,Nat.reduceAdd]
  clear hH HSY
  (try simp only [Exit.then])
  go_wp2_with fail
  go_ret
  exact ⟨rfl,HB1.out.below⟩
theorem turned_any {rs:List Int} (root:Nat) (id wh at' by':Int) (w:World) (hr:K32 rs root) (hT:TabV w) :
  Calls Tryd.prog 7 #[.agg (arr .u8 rs), .int .i64 id, .int .i64 wh, .int .i64 at', .int .u8 by'] w fun e w'=>e = .returned (.bool true)∧Below w.heap.size w w':=by
 by_cases h0:id < 0
 ·exact turned_neg id wh at' by' w hT h0
 ·by_cases h1:1073741824 < id
  ·exact turned_big id wh at' by' w hT h0 h1
  ·by_cases h2:at' < 0
   ·exact turned_at id wh at' by' w hT h0 h1 h2
   ·by_cases h3:by'=0
    ·exact turned_by id wh at' by' w hT h0 h1 h2 h3
    ·obtain ⟨I,rfl⟩:=Int.eq_ofNat_of_zero_le (show 0≤at' by omega)
     exact turned_core root I id wh by' w hr hT (by omega) h3
end Go.Proofs.YtodnkallpfkdiaaDoor.Ce
