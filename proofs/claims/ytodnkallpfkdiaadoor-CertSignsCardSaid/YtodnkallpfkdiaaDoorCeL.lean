/- portcullislaw16.CertSigns: it answers true. Condition: the arguments' sizes; the tables hold what their text lays. -/
import Derived.Test.YtodnkallpfkdiaaDoorCdD
import Derived.Test.YtodnkallpfkdiaaDoorCeQ
import Derived.Test.YtodnkallpfkdiaaDoorAgc
import Derived.Test.YtodnkallpfkdiaaDoorSyf
set_option maxRecDepth 100000
set_option maxHeartbeats 16000000
set_option linter.unusedSimpArgs false
set_option linter.unusedVariables false
namespace Go.Proofs.YtodnkallpfkdiaaDoor.Ce
open Go.RowKit Lm Fp Cu Sl Sc
theorem signs_any {rs ks:List Int} (root key:Nat) (id:Int) (w:World) (hr:K32 rs root) (hk:K32 ks key) (hT:TabV w) :
  Calls Tryd.prog 5 #[.agg (arr .u8 rs), .int .i64 id, .agg (arr .u8 ks)] w fun e w'=>e = .returned (.bool true)∧Below w.heap.size w w':=by
 have hal:=fun (u:World) (h:TabV u)=>alive16_any u h.toTabP
 have hs1:=fun (u:World)=>sign_any root key id u hr hk
 have hs2:=fun (u:World) (h:TabV u)=>rsignCert_any root key id u hr hk h
 have hpb:∀ u,TabV u→Calls Tryd.prog 27 #[.agg (arr .u8 rs)] u fun e w'=>e = .returned (.agg (arr .u8 (n32 (epub root))))∧Below u.heap.size u w':=by
  intro u h
  rw [show arr .u8 rs=arr .u8 (n32 root) by rw [n32,← hr.1]]
  exact pub_any root u h.toTabP
 obtain ⟨XC,E,hV,hsz,hone,heq,hE⟩:=certV_is root key id
 rw [hV] at hs1 hs2
 have hck:E=0→∀ u,Calls Tryd.prog 26 #[.agg (arr .u8 (n32 (epub root))), .agg XC] u fun e w'=>e = .returned (.bool true)∧Below u.heap.size u w':=by
  intro h0 u
  obtain ⟨-, h1,rfl⟩:=hE.resolve_right (by rintro (h|h) <;> omega)
  have:=check_any (rs:=n32 (epub root)) (ks:=n32 key) (gs:=esign root (certT id key)) (epub root) key id u (k32_pub root) ⟨rfl,hk.2⟩ (esign_len _ _) (esign_bytes _ _)
  rwa [h1,ver_sign,Ed.holds] at this
 have hE:E=0∨E=1∨E=21:=by rcases hE with h|h|h <;> simp_all
 obtain ⟨pr,hpr⟩:∃ x,x=n32 (epub root):=⟨_,rfl⟩
 rw [← hpr] at hpb hck
 obtain ⟨zc,hzc⟩:∃ c,c=cert0:=⟨_,rfl⟩
 have hzs:cert0.size=97:=certC_size (by simp) (by simp)
 have hz:∀ w,(zeroValue 28).run Tryd.prog w = .ok (.agg cert0) w:=fun w=>zero_cert w
 rw [← hzc] at hzs hz
 have HAL:=Lib.hid hal
 have HG1:=Lib.hid hs1
 have HG2:=Lib.hid hs2
 have HPB:=Lib.hid hpb
 have HCK:=Lib.hid hck
 have HZ:=Lib.hid hz
 have HSZ:Hid (XC.size=zc.size):=Lib.hid (by rw [hsz,hzs])
 have HXI:Hid ((Tryd.prog.info? 28).map (·.size)=some XC.size):=Lib.hid (by rw [hsz];exact size_cert)
 have HXO:=Lib.hid hone
 have HEQ:=Lib.hid heq
 have HRL:=Lib.hid hr.len
 have HKL:=Lib.hid hk.len
 have HT:=Lib.hid hT
 have HS0:=Lib.hid (Blk.two w (arr .u8 rs) (arr .u8 ks) 23 23)
 clear hal hs1 hs2 hpb hck hz hsz hone heq hr hk hT hzs hzc hpr hV
 rcases hE with rfl|rfl|rfl
 ·go_enter Tryd.func5, Tryd.ntmps5
  go_upto_region 1 with fail
  (try simp only [World.size_alloc,Act.put,sA,sZ,sS])
  generalize ((w.alloc (.cells (arr .u8 rs) 23)).alloc (.cells (arr .u8 ks) 23))=wb at HS0 ⊢
  go_upto_region 2 with ((with_reducible show Calls _ 22 _ _ _);go_at_call 22; refine (HAL.out _ (HT.out.below HS0.out.below)).mono ?_;rintro e w1 ⟨rfl,hb1⟩;have HS1:=Lib.hid (HS0.out.kept hb1);clear hb1)
  (try simp only [World.size_alloc,Act.put,sA,sZ,sS])
  go_upto_region 3 with (first|((with_reducible refine aS 14 ?_);refine wpList_load_part rfl 23 _ rfl (w.heap.size) 0 _ 23 (0,0) _ (HS1.out.get 0 rfl) rfl .u8 rs (arr_part _ _) Tryd.underlying23 rfl (Sl.num_i HRL.out) ?_)|((with_reducible refine aS 16 ?_);refine wpList_load_part rfl 23 _ rfl (w.heap.size+1) 0 _ 23 (0,0) _ (HS1.out.get 1 rfl) rfl .u8 ks (arr_part _ _) Tryd.underlying23 rfl (Sl.num_i HKL.out) ?_)|((with_reducible show Calls _ 23 _ _ _);go_at_call 23; refine (HG1.out _).mono ?_;rintro e w2 ⟨rfl,hb⟩;have HS2:=Lib.hid (HS1.out.kept hb);clear hb)|((with_reducible refine aS 8 ?_);refine wpList_alloc_row rfl 28 rfl _ (HZ.out _) ?_;have HS3:=Lib.hid (HS2.out.alloc (zc) 28);generalize w2.heap.size=g8 at HS3 ⊢; generalize w2.alloc (.cells (zc) 28)=w3 at HS3 ⊢)|((with_reducible refine aT 8 ?_);refine wpList_store_whole rfl 28 _ _ rfl (g8) _ _ 28 (HS3.out.get 2 rfl) rfl rfl HSZ.out HXI.out HXO.out ?_;intro w4 hb hk hz;have HS4:=Lib.hid (HS3.out.put 2 rfl hk hb);clear hb hk hz))
  (try simp only [World.size_alloc,Act.put,sA,sZ,sS])
  go_upto_region 4 with (first|((with_reducible refine aS 21 ?_);refine wpList_load_part rfl 23 _ rfl (w.heap.size) 0 _ 23 (0,0) _ (HS4.out.get 0 rfl) rfl .u8 rs (arr_part _ _) Tryd.underlying23 rfl (Sl.num_i HRL.out) ?_)|((with_reducible refine aS 23 ?_);refine wpList_load_part rfl 23 _ rfl (w.heap.size+1) 0 _ 23 (0,0) _ (HS4.out.get 1 rfl) rfl .u8 ks (arr_part _ _) Tryd.underlying23 rfl (Sl.num_i HKL.out) ?_)|((with_reducible show Calls _ 24 _ _ _);go_at_call 24; refine (HG2.out _ (HT.out.below HS4.out.below)).mono ?_;rintro e w5 ⟨rfl,hb⟩;have HS5:=Lib.hid (HS4.out.kept hb);clear hb)|((with_reducible refine aS 10 ?_);refine wpList_alloc_row rfl 28 rfl _ (HZ.out _) ?_;have HS6:=Lib.hid (HS5.out.alloc (zc) 28);generalize w5.heap.size=g10 at HS6 ⊢; generalize w5.alloc (.cells (zc) 28)=w6 at HS6 ⊢)|((with_reducible refine aT 10 ?_);refine wpList_store_whole rfl 28 _ _ rfl (g10) _ _ 28 (HS6.out.get 3 rfl) rfl rfl HSZ.out HXI.out HXO.out ?_;intro w7 hb hk hz;have HS7:=Lib.hid (HS6.out.put 3 rfl hk hb);clear hb hk hz))
  (try simp only [World.size_alloc,Act.put,sA,sZ,sS])
  refine wp_region_sym (T:=fun _=>False) (w:=w) (sy:=[Yv (.bool true),Yv (.bool true),Yv (.int .i64 0),Yv (.int .i64 0),Yv (.int .i64 0),Yv (.bool true),Yv (.bool true),Yv (.bool true),Yv (.agg XC),Yv (.agg XC),Yv (.bool true),Yv (.bool true),Yv (.bool true),Yv (.int .i64 0),Yv (.bool false),Yv (.bool false),Yr .u8 rs,Yr .u8 pr,Yv (.agg XC),Yv (.bool true),Yv (.bool true),Yv (.bool true),Yv (.bool true)]) (pt:=[]) (by kernel_rfl) (by kernel_rfl) (by kernel_rfl) HS7.out.holds (fun hW=>?s1) (fun q1 x1 u1 _ hH=>?e1)
  case s1 =>
   refine SyP hW ?_
   refine SyP hW ?_
   refine SyU (SyP hW ?_)
   refine SyU (SyD hW ?_ (vs:=[.int .i64 0]) (fun u _=>(num16_any _ u).mono (by rintro e w' ⟨rfl,rfl⟩;exact ⟨rfl,Below.refl _ _⟩)))
   refine SyU (SyP hW ?_)
   refine SyU (SyP hW ?_)
   refine SyP hW ?_
   refine SyP hW ?_
   refine SyU (SyLa hW ?_ 2 0 XC 28 (all_of XC) Tryd.underlying28 rfl HXI.out)
   refine SyU (SyLa hW ?_ 3 0 XC 28 (all_of XC) Tryd.underlying28 rfl HXI.out)
   refine SyU (SyX hW ?_ [.tmp 35, .tmp 36] [.agg XC, .agg XC] (fun ρ u _ e=>exec_eqlL rfl eg_cert e HEQ.out u))
   refine SyP hW ?_
   refine SyP hW ?_
   iterate 3 refine SyU (SyP hW ?_)
   refine SyUf (SyL hW ?_ 0 0 (arr .u8 rs) 23 rowN HRL.out (arr_part _ _))
   refine SyUf (SyD hW ?_ (vs:=[.agg (arr .u8 rs)]) (fun u k=>HPB.out u (HT.out.below (kept_below k))))
   refine SyUf (SyLa hW ?_ 2 0 XC 28 (all_of XC) Tryd.underlying28 rfl HXI.out)
   refine SyUf (SyD hW ?_ (vs:=[.agg (arr .u8 pr), .agg XC]) (fun u _=>HCK.out (by first|rfl|trivial) u))
   refine SyU (SyP hW ?_)
   refine SyP hW ?_
   refine SyP hW ?_
   exact SyN
  case e1 =>
   have HB1:=Lib.hid (hH.blk [0,1,2,3] [(w.heap.size,arr .u8 rs, 23),(w.heap.size+1,arr .u8 ks, 23),(g8,XC, 28),(g10,XC, 28)] (by decide) (by kernel_rfl))
   simp only [lay,Sy.at,den',Yr,Yv,Yp,Yq,Yn,Y0,Yw,Act.put,sA,sZ,sS,Nat.reduceAdd]
   clear hH HS7
   (try simp only [Exit.then])
   go_wp2_with fail
   go_ret
   exact ⟨rfl,HB1.out.below⟩
 ·go_enter Tryd.func5, Tryd.ntmps5
  go_upto_region 1 with fail
  (try simp only [World.size_alloc,Act.put,sA,sZ,sS])
  generalize ((w.alloc (.cells (arr .u8 rs) 23)).alloc (.cells (arr .u8 ks) 23))=wb at HS0 ⊢
  go_upto_region 2 with ((with_reducible show Calls _ 22 _ _ _);go_at_call 22; refine (HAL.out _ (HT.out.below HS0.out.below)).mono ?_;rintro e w1 ⟨rfl,hb1⟩;have HS1:=Lib.hid (HS0.out.kept hb1);clear hb1)
  (try simp only [World.size_alloc,Act.put,sA,sZ,sS])
  go_upto_region 3 with (first|((with_reducible refine aS 14 ?_);refine wpList_load_part rfl 23 _ rfl (w.heap.size) 0 _ 23 (0,0) _ (HS1.out.get 0 rfl) rfl .u8 rs (arr_part _ _) Tryd.underlying23 rfl (Sl.num_i HRL.out) ?_)|((with_reducible refine aS 16 ?_);refine wpList_load_part rfl 23 _ rfl (w.heap.size+1) 0 _ 23 (0,0) _ (HS1.out.get 1 rfl) rfl .u8 ks (arr_part _ _) Tryd.underlying23 rfl (Sl.num_i HKL.out) ?_)|((with_reducible show Calls _ 23 _ _ _);go_at_call 23; refine (HG1.out _).mono ?_;rintro e w2 ⟨rfl,hb⟩;have HS2:=Lib.hid (HS1.out.kept hb);clear hb)|((with_reducible refine aS 8 ?_);refine wpList_alloc_row rfl 28 rfl _ (HZ.out _) ?_;have HS3:=Lib.hid (HS2.out.alloc (zc) 28);generalize w2.heap.size=g8 at HS3 ⊢; generalize w2.alloc (.cells (zc) 28)=w3 at HS3 ⊢)|((with_reducible refine aT 8 ?_);refine wpList_store_whole rfl 28 _ _ rfl (g8) _ _ 28 (HS3.out.get 2 rfl) rfl rfl HSZ.out HXI.out HXO.out ?_;intro w4 hb hk hz;have HS4:=Lib.hid (HS3.out.put 2 rfl hk hb);clear hb hk hz))
  (try simp only [World.size_alloc,Act.put,sA,sZ,sS])
  go_upto_region 4 with (first|((with_reducible refine aS 21 ?_);refine wpList_load_part rfl 23 _ rfl (w.heap.size) 0 _ 23 (0,0) _ (HS4.out.get 0 rfl) rfl .u8 rs (arr_part _ _) Tryd.underlying23 rfl (Sl.num_i HRL.out) ?_)|((with_reducible refine aS 23 ?_);refine wpList_load_part rfl 23 _ rfl (w.heap.size+1) 0 _ 23 (0,0) _ (HS4.out.get 1 rfl) rfl .u8 ks (arr_part _ _) Tryd.underlying23 rfl (Sl.num_i HKL.out) ?_)|((with_reducible show Calls _ 24 _ _ _);go_at_call 24; refine (HG2.out _ (HT.out.below HS4.out.below)).mono ?_;rintro e w5 ⟨rfl,hb⟩;have HS5:=Lib.hid (HS4.out.kept hb);clear hb)|((with_reducible refine aS 10 ?_);refine wpList_alloc_row rfl 28 rfl _ (HZ.out _) ?_;have HS6:=Lib.hid (HS5.out.alloc (zc) 28);generalize w5.heap.size=g10 at HS6 ⊢; generalize w5.alloc (.cells (zc) 28)=w6 at HS6 ⊢)|((with_reducible refine aT 10 ?_);refine wpList_store_whole rfl 28 _ _ rfl (g10) _ _ 28 (HS6.out.get 3 rfl) rfl rfl HSZ.out HXI.out HXO.out ?_;intro w7 hb hk hz;have HS7:=Lib.hid (HS6.out.put 3 rfl hk hb);clear hb hk hz))
  (try simp only [World.size_alloc,Act.put,sA,sZ,sS])
  refine wp_region_sym (T:=fun _=>False) (w:=w) (sy:=[Yv (.bool true),Yv (.bool true),Yv (.int .i64 1),Yv (.int .i64 1),Yv (.int .i64 1),Yv (.bool true),Yv (.bool true),Yv (.bool true),Yv (.agg XC),Yv (.agg XC),Yv (.bool true),Yv (.bool true),Yv (.bool true),Yv (.int .i64 1),Yv (.bool true),Yv (.bool true),Yv undef,Yv undef,Yv undef,Yv undef,Yv (.bool true),Yv (.bool true),Yv (.bool true)]) (pt:=[]) (by kernel_rfl) (by kernel_rfl) (by kernel_rfl) HS7.out.holds (fun hW=>?s2) (fun q2 x2 u2 _ hH=>?e2)
  case s2 =>
   refine SyP hW ?_
   refine SyP hW ?_
   refine SyU (SyP hW ?_)
   refine SyU (SyD hW ?_ (vs:=[.int .i64 1]) (fun u _=>(num16_any _ u).mono (by rintro e w' ⟨rfl,rfl⟩;exact ⟨rfl,Below.refl _ _⟩)))
   refine SyU (SyP hW ?_)
   refine SyU (SyP hW ?_)
   refine SyP hW ?_
   refine SyP hW ?_
   refine SyU (SyLa hW ?_ 2 0 XC 28 (all_of XC) Tryd.underlying28 rfl HXI.out)
   refine SyU (SyLa hW ?_ 3 0 XC 28 (all_of XC) Tryd.underlying28 rfl HXI.out)
   refine SyU (SyX hW ?_ [.tmp 35, .tmp 36] [.agg XC, .agg XC] (fun ρ u _ e=>exec_eqlL rfl eg_cert e HEQ.out u))
   refine SyP hW ?_
   refine SyP hW ?_
   iterate 3 refine SyU (SyP hW ?_)
   iterate 4 refine SyKf hW ?_
   refine SyU (SyP hW ?_)
   refine SyP hW ?_
   refine SyP hW ?_
   exact SyN
  case e2 =>
   have HB2:=Lib.hid (hH.blk [0,1,2,3] [(w.heap.size,arr .u8 rs, 23),(w.heap.size+1,arr .u8 ks, 23),(g8,XC, 28),(g10,XC, 28)] (by decide) (by kernel_rfl))
   simp only [lay,Sy.at,den',Yr,Yv,Yp,Yq,Yn,Y0,Yw,Act.put,sA,sZ,sS,Nat.reduceAdd]
   clear hH HS7
   (try simp only [Exit.then])
   go_wp2_with fail
   go_ret
   exact ⟨rfl,HB2.out.below⟩
 ·go_enter Tryd.func5, Tryd.ntmps5
  go_upto_region 1 with fail
  (try simp only [World.size_alloc,Act.put,sA,sZ,sS])
  generalize ((w.alloc (.cells (arr .u8 rs) 23)).alloc (.cells (arr .u8 ks) 23))=wb at HS0 ⊢
  go_upto_region 2 with ((with_reducible show Calls _ 22 _ _ _);go_at_call 22; refine (HAL.out _ (HT.out.below HS0.out.below)).mono ?_;rintro e w1 ⟨rfl,hb1⟩;have HS1:=Lib.hid (HS0.out.kept hb1);clear hb1)
  (try simp only [World.size_alloc,Act.put,sA,sZ,sS])
  go_upto_region 3 with (first|((with_reducible refine aS 14 ?_);refine wpList_load_part rfl 23 _ rfl (w.heap.size) 0 _ 23 (0,0) _ (HS1.out.get 0 rfl) rfl .u8 rs (arr_part _ _) Tryd.underlying23 rfl (Sl.num_i HRL.out) ?_)|((with_reducible refine aS 16 ?_);refine wpList_load_part rfl 23 _ rfl (w.heap.size+1) 0 _ 23 (0,0) _ (HS1.out.get 1 rfl) rfl .u8 ks (arr_part _ _) Tryd.underlying23 rfl (Sl.num_i HKL.out) ?_)|((with_reducible show Calls _ 23 _ _ _);go_at_call 23; refine (HG1.out _).mono ?_;rintro e w2 ⟨rfl,hb⟩;have HS2:=Lib.hid (HS1.out.kept hb);clear hb)|((with_reducible refine aS 8 ?_);refine wpList_alloc_row rfl 28 rfl _ (HZ.out _) ?_;have HS3:=Lib.hid (HS2.out.alloc (zc) 28);generalize w2.heap.size=g8 at HS3 ⊢; generalize w2.alloc (.cells (zc) 28)=w3 at HS3 ⊢)|((with_reducible refine aT 8 ?_);refine wpList_store_whole rfl 28 _ _ rfl (g8) _ _ 28 (HS3.out.get 2 rfl) rfl rfl HSZ.out HXI.out HXO.out ?_;intro w4 hb hk hz;have HS4:=Lib.hid (HS3.out.put 2 rfl hk hb);clear hb hk hz))
  (try simp only [World.size_alloc,Act.put,sA,sZ,sS])
  go_upto_region 4 with (first|((with_reducible refine aS 21 ?_);refine wpList_load_part rfl 23 _ rfl (w.heap.size) 0 _ 23 (0,0) _ (HS4.out.get 0 rfl) rfl .u8 rs (arr_part _ _) Tryd.underlying23 rfl (Sl.num_i HRL.out) ?_)|((with_reducible refine aS 23 ?_);refine wpList_load_part rfl 23 _ rfl (w.heap.size+1) 0 _ 23 (0,0) _ (HS4.out.get 1 rfl) rfl .u8 ks (arr_part _ _) Tryd.underlying23 rfl (Sl.num_i HKL.out) ?_)|((with_reducible show Calls _ 24 _ _ _);go_at_call 24; refine (HG2.out _ (HT.out.below HS4.out.below)).mono ?_;rintro e w5 ⟨rfl,hb⟩;have HS5:=Lib.hid (HS4.out.kept hb);clear hb)|((with_reducible refine aS 10 ?_);refine wpList_alloc_row rfl 28 rfl _ (HZ.out _) ?_;have HS6:=Lib.hid (HS5.out.alloc (zc) 28);generalize w5.heap.size=g10 at HS6 ⊢; generalize w5.alloc (.cells (zc) 28)=w6 at HS6 ⊢)|((with_reducible refine aT 10 ?_);refine wpList_store_whole rfl 28 _ _ rfl (g10) _ _ 28 (HS6.out.get 3 rfl) rfl rfl HSZ.out HXI.out HXO.out ?_;intro w7 hb hk hz;have HS7:=Lib.hid (HS6.out.put 3 rfl hk hb);clear hb hk hz))
  (try simp only [World.size_alloc,Act.put,sA,sZ,sS])
  refine wp_region_sym (T:=fun _=>False) (w:=w) (sy:=[Yv (.bool true),Yv (.bool true),Yv (.int .i64 21),Yv (.int .i64 21),Yv (.int .i64 21),Yv (.bool true),Yv (.bool true),Yv (.bool true),Yv (.agg XC),Yv (.agg XC),Yv (.bool true),Yv (.bool true),Yv (.bool true),Yv (.int .i64 21),Yv (.bool true),Yv (.bool true),Yv undef,Yv undef,Yv undef,Yv undef,Yv (.bool true),Yv (.bool true),Yv (.bool true)]) (pt:=[]) (by kernel_rfl) (by kernel_rfl) (by kernel_rfl) HS7.out.holds (fun hW=>?s3) (fun q3 x3 u3 _ hH=>?e3)
  case s3 =>
   refine SyP hW ?_
   refine SyP hW ?_
   refine SyU (SyP hW ?_)
   refine SyU (SyD hW ?_ (vs:=[.int .i64 21]) (fun u _=>(num16_any _ u).mono (by rintro e w' ⟨rfl,rfl⟩;exact ⟨rfl,Below.refl _ _⟩)))
   refine SyU (SyP hW ?_)
   refine SyU (SyP hW ?_)
   refine SyP hW ?_
   refine SyP hW ?_
   refine SyU (SyLa hW ?_ 2 0 XC 28 (all_of XC) Tryd.underlying28 rfl HXI.out)
   refine SyU (SyLa hW ?_ 3 0 XC 28 (all_of XC) Tryd.underlying28 rfl HXI.out)
   refine SyU (SyX hW ?_ [.tmp 35, .tmp 36] [.agg XC, .agg XC] (fun ρ u _ e=>exec_eqlL rfl eg_cert e HEQ.out u))
   refine SyP hW ?_
   refine SyP hW ?_
   iterate 3 refine SyU (SyP hW ?_)
   iterate 4 refine SyKf hW ?_
   refine SyU (SyP hW ?_)
   refine SyP hW ?_
   refine SyP hW ?_
   exact SyN
  case e3 =>
   have HB3:=Lib.hid (hH.blk [0,1,2,3] [(w.heap.size,arr .u8 rs, 23),(w.heap.size+1,arr .u8 ks, 23),(g8,XC, 28),(g10,XC, 28)] (by decide) (by kernel_rfl))
   simp only [lay,Sy.at,den',Yr,Yv,Yp,Yq,Yn,Y0,Yw,Act.put,sA,sZ,sS,Nat.reduceAdd]
   clear hH HS7
   (try simp only [Exit.then])
   go_wp2_with fail
   go_ret
   exact ⟨rfl,HB3.out.below⟩
end Go.Proofs.YtodnkallpfkdiaaDoor.Ce
