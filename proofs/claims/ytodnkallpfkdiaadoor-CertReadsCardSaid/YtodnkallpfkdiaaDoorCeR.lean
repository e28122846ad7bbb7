/- portcullislaw16.CertReads: it answers true. Condition: the arguments' sizes; the tables hold what their text lays. -/
import Derived.Test.YtodnkallpfkdiaaDoorCdE
import Derived.Test.YtodnkallpfkdiaaDoorCeV
set_option maxRecDepth 100000
set_option maxHeartbeats 16000000
set_option linter.unusedSimpArgs false
set_option linter.unusedVariables false
namespace Go.Proofs.YtodnkallpfkdiaaDoor.Ce
open Go.RowKit Lm Fp Cu Sl Sc
theorem reads_long {hs:List Int} (sa:Option Addr) (n c:Nat) (jd:Int) (w:World) (hT:TabP w) (h:(300:Int) < (n:Int)) :
  Calls Tryd.prog 8 #[.slice sa n c, .agg (stopC jd hs)] w fun e w'=>e = .returned (.bool true)∧Below w.heap.size w w':=by
 have HAL:=Lib.hid (fun (u:World) (h:TabP u)=>alive16_any u h)
 have HT:=Lib.hid hT
 have HS0:=Lib.hid (Blk.one w (stopC jd hs) 52)
 clear hT
 go_enter Tryd.func8, Tryd.ntmps8
 go_wp2_with ((with_reducible show Calls _ 22 _ _ _);go_at_call 22; refine (HAL.out _ (HT.out.below HS0.out.below)).mono ?_;rintro e w1 ⟨rfl,hb1⟩;have HS1:=Lib.hid (HS0.out.kept hb1);clear hb1)
 (try simp only [Exit.then])
 go_ret
 exact ⟨rfl,HS1.out.below⟩
theorem reads_core {hs xs:List Int} (sa:Option Addr) (n c:Nat) (jd:Int) (w:World) (hsr:Src w sa n xs) (hc:n≤c) (hx:bytes xs) (hh:hs.length=64) (hj : -9223372036854775808≤jd∧jd≤9223372036854775807) (hT:TabP w) (hn:n≤300) :
  Calls Tryd.prog 8 #[.slice sa n c, .agg (stopC jd hs)] w fun e w'=>e = .returned (.bool true)∧Below w.heap.size w w':=by
 have hgt:¬ ((300:Int) < (n:Int)):=by omega
 have hal:=fun (u:World) (h:TabP u)=>alive16_any u h
 have hr1:=fun (u:World) (h:Src u sa n xs)=>readStop_any sa n c xs u h hx (by omega)
 have hr2:=fun (u:World) (h:Src u sa n xs)=>rreadStop_any sa n c xs u h hc hx (by omega)
 have hp1:=fun (u:World)=>packStop_any (gs:=hs) jd u hh
 have hp2:=fun (u:World)=>rpackStop_any (gs:=hs) jd u hh hj
 obtain ⟨XC,E,hV,hsz,hone,heq, -⟩:=readV_is xs
 rw [hV] at hr1 hr2
 generalize (if okI jd then (0:Int) else 1)=F at hp1 hp2
 generalize (if okI jd then stopT jd ++ hs else [])=T at hp1 hp2
 have hsw:∀ u:World,Below w.heap.size w u→Src u sa n xs:=fun u h=>hsr.below h
 have HSI:Hid ((Tryd.prog.info? 52).map (·.size)=some (stopC jd hs).size):=Lib.hid (by rw [stopC_size hh];exact size_stop)
 obtain ⟨SC,hSC⟩:∃ c,c=stopC jd hs:=⟨_,rfl⟩
 rw [← hSC] at hp1 hp2 HSI ⊢
 obtain ⟨zc,hzc⟩:∃ c,c=stopC 0 (List.replicate 64 0):=⟨_,rfl⟩
 have hzs:=stopC_size (id:=0) (gs:=List.replicate 64 0) (by simp)
 have hz:=fun w=>zero_stop w
 rw [← hzc] at hzs hz
 obtain ⟨S,hS⟩:∃ S,S=strOfNums T:=⟨_,rfl⟩
 have hSS:(S.toList == S.toList)=true:=by simp
 have HST:Hid (strOfNums T=S):=Lib.hid hS.symm
 have HAL:=Lib.hid hal
 have HR1:=Lib.hid hr1
 have HR2:=Lib.hid hr2
 have HP1:=Lib.hid hp1
 have HP2:=Lib.hid hp2
 have HSW:=Lib.hid hsw
 have HZ:=Lib.hid hz
 have HSZ:Hid (XC.size=zc.size):=Lib.hid (by rw [hsz,hzs])
 have HXI:Hid ((Tryd.prog.info? 52).map (·.size)=some XC.size):=Lib.hid (by rw [hsz];exact size_stop)
 have HXO:=Lib.hid hone
 have HEQ:=Lib.hid heq
 have HT:=Lib.hid hT
 have HS0:=Lib.hid (Blk.one w SC 52)
 clear hal hr1 hr2 hp1 hp2 hsw hz hzs hsz hone heq hT hsr hh hj hx hc hSC hzc hV hS
 go_enter Tryd.func8, Tryd.ntmps8
 go_upto_region 4 with ((with_reducible show Calls _ 22 _ _ _);go_at_call 22; refine (HAL.out _ (HT.out.below HS0.out.below)).mono ?_;rintro e w1 ⟨rfl,hb1⟩;have HS1:=Lib.hid (HS0.out.kept hb1);clear hb1)
 (try simp only [World.size_alloc,Act.put,sA,sZ,sS])
 go_upto_region 5 with (first|((with_reducible show Calls _ 32 _ _ _);go_at_call 32; refine (HR1.out _ (HSW.out _ HS1.out.below)).mono ?_;rintro e w2 ⟨rfl,hb⟩;have HS2:=Lib.hid (HS1.out.kept hb);clear hb)|((with_reducible refine aS 6 ?_);refine wpList_alloc_row rfl 52 rfl _ (HZ.out _) ?_;have HS3:=Lib.hid (HS2.out.alloc (zc) 52);generalize w2.heap.size=g6 at HS3 ⊢; generalize w2.alloc (.cells (zc) 52)=w3 at HS3 ⊢)|((with_reducible refine aT 6 ?_);refine wpList_store_whole rfl 52 _ _ rfl (g6) _ _ 52 (HS3.out.get 1 rfl) rfl rfl HSZ.out HXI.out HXO.out ?_;intro w4 hb hk hz;have HS4:=Lib.hid (HS3.out.put 1 rfl hk hb);clear hb hk hz))
 (try simp only [World.size_alloc,Act.put,sA,sZ,sS])
 go_upto_region 6 with (first|((with_reducible show Calls _ 33 _ _ _);go_at_call 33; refine (HR2.out _ (HSW.out _ HS4.out.below)).mono ?_;rintro e w5 ⟨rfl,hb⟩;have HS5:=Lib.hid (HS4.out.kept hb);clear hb)|((with_reducible refine aS 8 ?_);refine wpList_alloc_row rfl 52 rfl _ (HZ.out _) ?_;have HS6:=Lib.hid (HS5.out.alloc (zc) 52);generalize w5.heap.size=g8 at HS6 ⊢; generalize w5.alloc (.cells (zc) 52)=w6 at HS6 ⊢)|((with_reducible refine aT 8 ?_);refine wpList_store_whole rfl 52 _ _ rfl (g8) _ _ 52 (HS6.out.get 2 rfl) rfl rfl HSZ.out HXI.out HXO.out ?_;intro w7 hb hk hz;have HS7:=Lib.hid (HS6.out.put 2 rfl hk hb);clear hb hk hz))
 (try simp only [World.size_alloc,Act.put,sA,sZ,sS])
 go_upto_region 7 with (first|((with_reducible refine aS 34 ?_);refine wpList_load_row rfl 52 _ rfl (w.heap.size) rfl 52 _ (0,0) _ (HS7.out.get 0 rfl) Tryd.underlying52 rfl HSI.out ?_)|((with_reducible show Calls _ 34 _ _ _);go_at_call 34; refine (HP1.out _).mono ?_;rintro e w8 ⟨v8,rfl,ho,hb⟩;have HS8:=Lib.hid (HS7.out.kept hb);have HO8:=Lib.hid ho;  clear ho hb))
 (try simp only [World.size_alloc,Act.put,sA,sZ,sS])
 go_upto_region 8 with (first|((with_reducible refine aS 39 ?_);refine wpList_load_row rfl 52 _ rfl (w.heap.size) rfl 52 _ (0,0) _ (HS8.out.get 0 rfl) Tryd.underlying52 rfl HSI.out ?_)|((with_reducible show Calls _ 35 _ _ _);go_at_call 35; refine (HP2.out _).mono ?_;rintro e w9 ⟨v9,rfl,ho,hb⟩;have HS9:=Lib.hid (HS8.out.kept hb);have HO9:=Lib.hid ho;have HO8b:=Lib.hid (HO8.out.below hb);clear ho hb))
 (try simp only [World.size_alloc,Act.put,sA,sZ,sS])
 have cv1:=HO8b.out.str
 have cv2:=HO9.out.str
 rw [HST.out] at cv1 cv2
 go_wp2_with (first|((with_reducible show Calls _ 25 _ _ _);go_at_call 25; refine (num16_any _ _).mono ?_;rintro e w' ⟨rfl,rfl⟩)|((with_reducible refine aS 48 ?_);refine wpList_load_rowW (by rfl) 52 _ rfl (g6) rfl _ _ (0,0) _ (HS9.out.get 1 rfl) Tryd.underlying52 rfl HXI.out ?_)|((with_reducible refine aS 49 ?_);refine wpList_load_rowW (by rfl) 52 _ rfl (g8) rfl _ _ (0,0) _ (HS9.out.get 2 rfl) Tryd.underlying52 rfl HXI.out ?_)|((with_reducible refine aS 50 ?_);refine wpList_runW (by rfl) (.bool true) (exec_eqlL (x := .tmp 48) (y := .tmp 49) rfl eg_stop rfl HEQ.out _) ?_))
 all_goals (try simp only [Exit.then])
 go_ret
 exact ⟨rfl,HS9.out.below⟩
theorem reads_any {hs xs:List Int} (sa:Option Addr) (n c:Nat) (jd:Int) (w:World) (hsr:Src w sa n xs∧bytes xs∧n≤c) (hh:hs.length=64) (hj : -9223372036854775808≤jd∧jd≤9223372036854775807) (hT:TabP w) :
  Calls Tryd.prog 8 #[.slice sa n c, .agg (stopC jd hs)] w fun e w'=>e = .returned (.bool true)∧Below w.heap.size w w':=by
 by_cases h:(300:Int) < (n:Int)
 ·exact reads_long sa n c jd w hT h
 ·exact reads_core sa n c jd w hsr.1 hsr.2.2 hsr.2.1 hh hj hT (by omega)
end Go.Proofs.YtodnkallpfkdiaaDoor.Ce
