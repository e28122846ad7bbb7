/- portcullislaw16.CertStops: it answers true. Condition: the arguments' sizes; the tables hold what their text lays. -/
import Derived.Test.YtodnkallpfkdiaaDoorCdC
import Derived.Test.YtodnkallpfkdiaaDoorCeV
import Derived.Test.YtodnkallpfkdiaaDoorCeW
import Derived.Test.YtodnkallpfkdiaaDoorAgc
import Derived.Test.YtodnkallpfkdiaaDoorMy
set_option maxRecDepth 100000
set_option maxHeartbeats 16000000
set_option linter.unusedSimpArgs false
set_option linter.unusedVariables false
namespace Go.Proofs.YtodnkallpfkdiaaDoor.Ce
open Go.RowKit Lm Fp Cu Sl Sc
theorem exec_str {o:Oper} {ρ:Operand→Value} {x:Operand} {v:Value} {u:World} {Bn:Nat} {T:List Int} {S:ByteArray} (ho:o.op = .convert 24 9 x) (e:[x].map ρ=[v]) (h:Own8 u Bn v T) (hS:strOfNums T=S):(execOp ρ o).run Tryd.prog u = .ok (.value (.string S)) u:=by
 simp only [List.map_cons,List.map_nil,List.cons.injEq,and_true] at e
 have hc:=h.str
 rw [hS] at hc
 simp only [execOp,ho,e]
 exact conv_nx hc
theorem exec_eqs {o:Oper} {ρ:Operand→Value} {ty:TypeId} {x y:Operand} {S:ByteArray} (ho:o.op = .binOp .eql 9 x y ty) (e:[x,y].map ρ=[.string S, .string S]) (h:(S.toList == S.toList)=true) (u:World):(execOp ρ o).run Tryd.prog u = .ok (.value (.bool true)) u:=by
 simp only [List.map_cons,List.map_nil,List.cons.injEq,and_true] at e
 simp only [execOp,ho,e.1,e.2]
 go_simp
theorem ne4 {v:Value} {a b c d:Nat} {x y z t:Array Value} {T1 T2 T3 T4:TypeId} (h:∀ k,v.ownBlock=some k→k≠d∧k≠a∧k≠b∧k≠c):∀ k,v.ownBlock=some k→¬ ∃ e∈[(a,x,T1),(b,y,T2),(c,z,T3),(d,t,T4)],e.1=k:=by
 intro k hk
 obtain ⟨h1,h2,h3,h4⟩:=h k hk
 rintro ⟨e,he,rfl⟩
 simp only [List.mem_cons,List.not_mem_nil,or_false] at he
 rcases he with rfl|rfl|rfl|rfl
 ·exact h2 rfl
 ·exact h3 rfl
 ·exact h4 rfl
 ·exact h1 rfl
theorem stops_any {rs:List Int} (root:Nat) (id:Int) (w:World) (hr:K32 rs root) (hT:TabS w) :
  Calls Tryd.prog 11 #[.agg (arr .u8 rs), .int .i64 id] w fun e w'=>e = .returned (.bool true)∧Below w.heap.size w w':=by
 have hal:=fun (u:World) (h:TabS u)=>alive16_any u h.toTabP
 have hs1:=fun (u:World)=>stop_any root id u hr
 have hs2:=fun (u:World) (h:TabS u)=>rstop_any root id u hr h
 have hpb:∀ u,TabS u→Calls Tryd.prog 27 #[.agg (arr .u8 rs)] u fun e w'=>e = .returned (.agg (arr .u8 (n32 (epub root))))∧Below u.heap.size u w':=by
  intro u h
  rw [show arr .u8 rs=arr .u8 (n32 root) by rw [n32,← hr.1]]
  exact pub_any root u h.toTabP
 obtain ⟨XC,E,hV,hsz,hone,heq,hE⟩:=stopV_is root id
 rw [hV] at hs1 hs2
 obtain ⟨T,hTe⟩:∃ T,T=stopT id ++ esign root (stopT id):=⟨_,rfl⟩
 have hgl:(esign root (stopT id)).length=64:=esign_len _ _
 have hall:E=0→(∀ u,Calls Tryd.prog 29 #[.agg (arr .u8 (n32 (epub root))), .agg XC] u fun e w'=>e = .returned (.bool true)∧Below u.heap.size u w')
   ∧ (∀ u,Calls Tryd.prog 34 #[.agg XC] u fun e w'=>∃ v,e = .returned (.tuple #[v, .int .i64 0])∧Own8 w' u.heap.size v T∧Below u.heap.size u w')
   ∧ (∀ u,Calls Tryd.prog 35 #[.agg XC] u fun e w'=>∃ v,e = .returned (.tuple #[v, .int .i64 0])∧Own8 w' u.heap.size v T∧Below u.heap.size u w')
   ∧ (∀ u v,isB T u v→Calls Tryd.prog 32 #[v] u fun e w'=>e = .returned (.tuple #[.agg XC, .int .i64 0])∧Below u.heap.size u w'):=by
  intro h0
  obtain ⟨-, h1,rfl⟩:=hE.resolve_right (by rintro h;omega)
  have hid:0≤id∧id≤2147483647:=by simpa [okI] using h1
  refine ⟨fun u=>?_,fun u=>?_,fun u=>?_,fun u v hv=>?_⟩
  ·have:=checkStop_any (rs:=n32 (epub root)) (gs:=esign root (stopT id)) (epub root) id u (k32_pub root) hgl (esign_bytes _ _)
   rwa [h1,ver_sign,Ed.holds] at this
  ·have:=packStop_any (gs:=esign root (stopT id)) id u hgl
   rwa [h1,if_pos rfl,if_pos rfl,← hTe] at this
  ·have:=rpackStop_any (gs:=esign root (stopT id)) id u hgl (by omega)
   rwa [h1,if_pos rfl,if_pos rfl,← hTe] at this
  ·obtain ⟨s,c,rfl, -, hsv⟩:=hv
   obtain ⟨r1,r2,r3⟩:=stopT_read id (esign root (stopT id)) h1 hgl
   have hlen:T.length=76:=by rw [hTe,List.length_append,stopT_len,hgl]
   have:=readStop_any s T.length c T u hsv (by rw [hTe];exact bytes_app (stopT_bytes id) (esign_bytes _ _)) (by omega)
   rwa [readV,hTe,if_pos r1,r2,r3,← hTe] at this
 have hE:E=0∨E=1:=by rcases hE with h|h <;> simp_all
 obtain ⟨pr,hpr⟩:∃ x,x=n32 (epub root):=⟨_,rfl⟩
 rw [← hpr] at hpb hall
 obtain ⟨zc,hzc⟩:∃ c,c=stopC 0 (List.replicate 64 0):=⟨_,rfl⟩
 have hzs:=stopC_size (id:=0) (gs:=List.replicate 64 0) (by simp)
 have hz:=fun w=>zero_stop w
 rw [← hzc] at hzs hz
 obtain ⟨S,hS⟩:∃ S,S=strOfNums T:=⟨_,rfl⟩
 have HST:Hid (strOfNums T=S):=Lib.hid hS.symm
 have HSQ:Hid ((S.toList == S.toList)=true):=Lib.hid (by simp)
 have HAL:=Lib.hid hal
 have HG1:=Lib.hid hs1
 have HG2:=Lib.hid hs2
 have HPB:=Lib.hid hpb
 have HLL:=Lib.hid hall
 have HZ:=Lib.hid hz
 have HSZ:Hid (XC.size=zc.size):=Lib.hid (by rw [hsz,hzs])
 have HXI:Hid ((Tryd.prog.info? 52).map (·.size)=some XC.size):=Lib.hid (by rw [hsz];exact size_stop)
 have HXO:=Lib.hid hone
 have HEQ:=Lib.hid heq
 have HRL:=Lib.hid hr.len
 have HT:=Lib.hid hT
 have HS0:=Lib.hid (Blk.one w (arr .u8 rs) 23)
 clear hal hs1 hs2 hpb hall hz hzs hsz hone heq hr hT hzc hpr hV hS hTe hgl
 rcases hE with rfl|rfl
 ·have HLM:=Lib.hid (HLL.out rfl)
  clear HLL
  go_enter Tryd.func11, Tryd.ntmps11
  go_upto_region 2 with ((with_reducible show Calls _ 22 _ _ _);go_at_call 22; refine (HAL.out _ (HT.out.below HS0.out.below)).mono ?_;rintro e w1 ⟨rfl,hb1⟩;have HS1:=Lib.hid (HS0.out.kept hb1);clear hb1)
  (try simp only [World.size_alloc,Act.put,sA,sZ,sS])
  go_upto_region 3 with (first|((with_reducible refine aS 18 ?_);refine wpList_load_part rfl 23 _ rfl (w.heap.size) 0 _ 23 (0,0) _ (HS1.out.get 0 rfl) rfl .u8 rs (arr_part _ _) Tryd.underlying23 rfl (Sl.num_i HRL.out) ?_)|((with_reducible show Calls _ 36 _ _ _);go_at_call 36; refine (HG1.out _).mono ?_;rintro e w2 ⟨rfl,hb⟩;have HS2:=Lib.hid (HS1.out.kept hb);clear hb)|((with_reducible refine aS 6 ?_);refine wpList_alloc_row rfl 52 rfl _ (HZ.out _) ?_;have HS3:=Lib.hid (HS2.out.alloc (zc) 52);generalize w2.heap.size=g6 at HS3 ⊢; generalize w2.alloc (.cells (zc) 52)=w3 at HS3 ⊢)|((with_reducible refine aT 6 ?_);refine wpList_store_whole rfl 52 _ _ rfl (g6) _ _ 52 (HS3.out.get 1 rfl) rfl rfl HSZ.out HXI.out HXO.out ?_;intro w4 hb hk hz;have HS4:=Lib.hid (HS3.out.put 1 rfl hk hb);clear hb hk hz))
  (try simp only [World.size_alloc,Act.put,sA,sZ,sS])
  go_upto_region 4 with (first|((with_reducible refine aS 24 ?_);refine wpList_load_part rfl 23 _ rfl (w.heap.size) 0 _ 23 (0,0) _ (HS4.out.get 0 rfl) rfl .u8 rs (arr_part _ _) Tryd.underlying23 rfl (Sl.num_i HRL.out) ?_)|((with_reducible show Calls _ 31 _ _ _);go_at_call 31; refine (HG2.out _ (HT.out.below HS4.out.below)).mono ?_;rintro e w5 ⟨rfl,hb⟩;have HS5:=Lib.hid (HS4.out.kept hb);clear hb)|((with_reducible refine aS 8 ?_);refine wpList_alloc_row rfl 52 rfl _ (HZ.out _) ?_;have HS6:=Lib.hid (HS5.out.alloc (zc) 52);generalize w5.heap.size=g8 at HS6 ⊢; generalize w5.alloc (.cells (zc) 52)=w6 at HS6 ⊢)|((with_reducible refine aT 8 ?_);refine wpList_store_whole rfl 52 _ _ rfl (g8) _ _ 52 (HS6.out.get 2 rfl) rfl rfl HSZ.out HXI.out HXO.out ?_;intro w7 hb hk hz;have HS7:=Lib.hid (HS6.out.put 2 rfl hk hb);clear hb hk hz))
  (try simp only [World.size_alloc,Act.put,sA,sZ,sS])
  go_upto_region 8 with (first|((with_reducible show Calls _ 25 _ _ _);go_at_call 25; refine (num16_any _ _).mono ?_;rintro e w' ⟨rfl,rfl⟩)|((with_reducible refine aS 38 ?_);refine wpList_load_rowW (by rfl) 52 _ rfl (g6) rfl _ _ (0,0) _ (HS7.out.get 1 rfl) Tryd.underlying52 rfl HXI.out ?_)|((with_reducible refine aS 39 ?_);refine wpList_load_rowW (by rfl) 52 _ rfl (g8) rfl _ _ (0,0) _ (HS7.out.get 2 rfl) Tryd.underlying52 rfl HXI.out ?_)|((with_reducible refine aS 40 ?_);refine wpList_runW (by rfl) (.bool false) (exec_neq (x := .tmp 38) (y := .tmp 39) rfl eg_stop rfl rfl HEQ.out _) ?_))
  (try simp only [World.size_alloc,Act.put,sA,sZ,sS])
  go_upto_region 9 with (first|((with_reducible refine aS 45 ?_);refine wpList_load_row rfl 52 _ rfl (g6) rfl 52 _ (0,0) _ (HS7.out.get 1 rfl) Tryd.underlying52 rfl HXI.out ?_)|((with_reducible show Calls _ 34 _ _ _);go_at_call 34; refine (HLM.out.2.1 _).mono ?_;rintro e w8 ⟨v10,rfl,ho,hb⟩;have HS8:=Lib.hid (HS7.out.kept hb);have HOv10:=Lib.hid ho;clear ho hb))
  (try simp only [World.size_alloc,Act.put,sA,sZ,sS])
  go_upto_region 10 with (first|((with_reducible refine aS 50 ?_);refine wpList_load_row rfl 52 _ rfl (g6) rfl 52 _ (0,0) _ (HS8.out.get 1 rfl) Tryd.underlying52 rfl HXI.out ?_)|((with_reducible show Calls _ 35 _ _ _);go_at_call 35; refine (HLM.out.2.2.1 _).mono ?_;rintro e w9 ⟨v12,rfl,ho,hb⟩;have HS9:=Lib.hid (HS8.out.kept hb);have HOv12:=Lib.hid ho;have HOv10b:=Lib.hid (HOv10.out.below hb);clear ho hb))
  (try simp only [World.size_alloc,Act.put,sA,sZ,sS])
  go_upto_region 11 with (first|((with_reducible show Calls _ 32 _ _ _);go_at_call 32; refine (HLM.out.2.2.2 _ _ (isB.own HOv10b.out)).mono ?_;rintro e w10 ⟨rfl,hb⟩;have HS10:=Lib.hid (HS9.out.kept hb);have HP10:=Lib.hid (HOv10b.out.below hb);have HP12:=Lib.hid (HOv12.out.below hb);clear hb)|((with_reducible refine aS 14 ?_);refine wpList_alloc_row rfl 52 rfl _ (HZ.out _) ?_;have HS11:=Lib.hid (HS10.out.alloc zc 52);have HQ10:=Lib.hid (HP10.out.alloc (.cells zc 52));have HQ12:=Lib.hid (HP12.out.alloc (.cells zc 52));have HN10:Hid (∀ k,v10.ownBlock=some k→k≠w10.heap.size∧k≠w.heap.size∧k≠g6∧k≠g8):=Lib.hid (fun k e=>by have h1:=HP10.out.lt k e;have h2:=HS7.out.lt 0 rfl;have h3:=HS7.out.lt 1 rfl;have h4:=HS7.out.lt 2 rfl;omega);have HN12:Hid (∀ k,v12.ownBlock=some k→k≠w10.heap.size∧k≠w.heap.size∧k≠g6∧k≠g8):=Lib.hid (fun k e=>by have h1:=HP12.out.lt k e;have h2:=HS8.out.lt 0 rfl;have h3:=HS8.out.lt 1 rfl;have h4:=HS8.out.lt 2 rfl;omega);generalize w10.heap.size=g14 at HS11 HN10 HN12 ⊢; generalize w10.alloc (.cells zc 52)=w11 at HS11 HQ10 HQ12 ⊢)|((with_reducible refine aT 14 ?_);refine wpList_store_whole rfl 52 _ _ rfl (g14) _ _ 52 (HS11.out.get 3 rfl) rfl rfl HSZ.out HXI.out HXO.out ?_;intro w12 hb hk hz;have HS12:=Lib.hid (HS11.out.put 3 rfl hk hb);have HR10:=Lib.hid (HQ10.out.kept hk (fun k e=>(HN10.out k e).1));have HR12:=Lib.hid (HQ12.out.kept hk (fun k e=>(HN12.out k e).1));clear hb hk hz))
  (try simp only [World.size_alloc,Act.put,sA,sZ,sS])
  have HSX:=Lib.hid (HS12.out.cast (l':=[(w.heap.size,arr .u8 rs, 23),(g6,XC, 52),(g8,XC, 52),(g14,XC, 52)]) rfl)
  refine wp_region_sym (T:=fun g=>∃ e∈[(w.heap.size,arr .u8 rs, 23),(g6,XC, 52),(g8,XC, 52),(g14,XC, 52)],e.1=g) (w:=w12) (sy:=[Yv (.int .i64 0),Yv (.int .i64 0),Yv (.bool true),Yv (.bool true),Yv (.int .i64 0),Yv (.bool true),Yv (.bool true),Yv (.bool true),Yv (v10),Yv (.string S),Yv (v12),Yv (.string S),Yv (.bool true),Yv (.bool true),Yv (.bool true),Yv (.int .i64 0),Yv (.int .i64 0),Yv (.bool true),Yv (.bool true),Yv (.bool true),Yv (.agg XC),Yv (.agg XC),Yv (.bool true),Yv (.bool true),Yv (.bool true),Yr .u8 rs,Yr .u8 pr,Yv (.agg XC),Yv (.bool true),Yv (.bool true),Yv (.bool true)]) (pt:=[]) (by kernel_rfl) (by kernel_rfl) (by kernel_rfl) HSX.out.holdsT (fun hW=>?s1) (fun q1 x1 u1 _ hH=>?e1)
  case s1 =>
   refine SyP hW ?_
   refine SyD hW ?_ (vs:=[.int .i64 0]) (fun u _=>(num16_any _ u).mono (by rintro e w' ⟨rfl,rfl⟩;exact ⟨rfl,Below.refl _ _⟩))
   refine SyP hW ?_
   refine SyP hW ?_
   refine SyU (SyP hW ?_)
   refine SyU (SyP hW ?_)
   refine SyP hW ?_
   refine SyP hW ?_
   refine SyU (SyP hW ?_)
   refine SyU (SyX hW ?_ [.tmp 67] [v10] (fun ρ u k e=>exec_str rfl e (HR10.out.kept k (ne4 HN10.out)) HST.out))
   refine SyU (SyP hW ?_)
   refine SyU (SyX hW ?_ [.tmp 69] [v12] (fun ρ u k e=>exec_str rfl e (HR12.out.kept k (ne4 HN12.out)) HST.out))
   refine SyU (SyX hW ?_ [.tmp 68, .tmp 70] [.string S, .string S] (fun ρ u _ e=>exec_eqs rfl e HSQ.out u))
   refine SyP hW ?_
   refine SyP hW ?_
   refine SyU (SyP hW ?_)
   refine SyU (SyD hW ?_ (vs:=[.int .i64 0]) (fun u _=>(num16_any _ u).mono (by rintro e w' ⟨rfl,rfl⟩;exact ⟨rfl,Below.refl _ _⟩)))
   refine SyU (SyP hW ?_)
   refine SyP hW ?_
   refine SyP hW ?_
   refine SyU (SyLa hW ?_ 3 0 XC 52 (all_of XC) Tryd.underlying52 rfl HXI.out)
   refine SyU (SyLa hW ?_ 1 0 XC 52 (all_of XC) Tryd.underlying52 rfl HXI.out)
   refine SyU (SyX hW ?_ [.tmp 79, .tmp 80] [.agg XC, .agg XC] (fun ρ u _ e=>exec_eqlL rfl eg_stop e HEQ.out u))
   refine SyP hW ?_
   refine SyP hW ?_
   refine SyU (SyL hW ?_ 0 0 (arr .u8 rs) 23 rowN HRL.out (arr_part _ _))
   refine SyU (SyD hW ?_ (vs:=[.agg (arr .u8 rs)]) (fun u k=>HPB.out u (HT.out.below (HSX.out.belowT k))))
   refine SyU (SyLa hW ?_ 1 0 XC 52 (all_of XC) Tryd.underlying52 rfl HXI.out)
   refine SyU (SyD hW ?_ (vs:=[.agg (arr .u8 pr), .agg XC]) (fun u _=>HLM.out.1 u))
   refine SyP hW ?_
   refine SyP hW ?_
   exact SyN
  case e1 =>
   have HB1:=Lib.hid (HSX.out.belowT hH.keep)
   simp only [lay,Sy.at,den',Yr,Yv,Yp,Yq,Yn,Y0,Yw,Act.put,sA,sZ,sS,Nat.reduceAdd]
   clear hH
   (try simp only [Exit.then])
   go_wp2_with fail
   go_ret
   exact ⟨rfl,HB1.out⟩
 ·go_enter Tryd.func11, Tryd.ntmps11
  go_upto_region 2 with ((with_reducible show Calls _ 22 _ _ _);go_at_call 22; refine (HAL.out _ (HT.out.below HS0.out.below)).mono ?_;rintro e w1 ⟨rfl,hb1⟩;have HS1:=Lib.hid (HS0.out.kept hb1);clear hb1)
  (try simp only [World.size_alloc,Act.put,sA,sZ,sS])
  go_upto_region 3 with (first|((with_reducible refine aS 18 ?_);refine wpList_load_part rfl 23 _ rfl (w.heap.size) 0 _ 23 (0,0) _ (HS1.out.get 0 rfl) rfl .u8 rs (arr_part _ _) Tryd.underlying23 rfl (Sl.num_i HRL.out) ?_)|((with_reducible show Calls _ 36 _ _ _);go_at_call 36; refine (HG1.out _).mono ?_;rintro e w2 ⟨rfl,hb⟩;have HS2:=Lib.hid (HS1.out.kept hb);clear hb)|((with_reducible refine aS 6 ?_);refine wpList_alloc_row rfl 52 rfl _ (HZ.out _) ?_;have HS3:=Lib.hid (HS2.out.alloc (zc) 52);generalize w2.heap.size=g6 at HS3 ⊢; generalize w2.alloc (.cells (zc) 52)=w3 at HS3 ⊢)|((with_reducible refine aT 6 ?_);refine wpList_store_whole rfl 52 _ _ rfl (g6) _ _ 52 (HS3.out.get 1 rfl) rfl rfl HSZ.out HXI.out HXO.out ?_;intro w4 hb hk hz;have HS4:=Lib.hid (HS3.out.put 1 rfl hk hb);clear hb hk hz))
  (try simp only [World.size_alloc,Act.put,sA,sZ,sS])
  go_upto_region 4 with (first|((with_reducible refine aS 24 ?_);refine wpList_load_part rfl 23 _ rfl (w.heap.size) 0 _ 23 (0,0) _ (HS4.out.get 0 rfl) rfl .u8 rs (arr_part _ _) Tryd.underlying23 rfl (Sl.num_i HRL.out) ?_)|((with_reducible show Calls _ 31 _ _ _);go_at_call 31; refine (HG2.out _ (HT.out.below HS4.out.below)).mono ?_;rintro e w5 ⟨rfl,hb⟩;have HS5:=Lib.hid (HS4.out.kept hb);clear hb)|((with_reducible refine aS 8 ?_);refine wpList_alloc_row rfl 52 rfl _ (HZ.out _) ?_;have HS6:=Lib.hid (HS5.out.alloc (zc) 52);generalize w5.heap.size=g8 at HS6 ⊢; generalize w5.alloc (.cells (zc) 52)=w6 at HS6 ⊢)|((with_reducible refine aT 8 ?_);refine wpList_store_whole rfl 52 _ _ rfl (g8) _ _ 52 (HS6.out.get 2 rfl) rfl rfl HSZ.out HXI.out HXO.out ?_;intro w7 hb hk hz;have HS7:=Lib.hid (HS6.out.put 2 rfl hk hb);clear hb hk hz))
  (try simp only [World.size_alloc,Act.put,sA,sZ,sS])
  go_wp2_with (first|((with_reducible show Calls _ 25 _ _ _);go_at_call 25; refine (num16_any _ _).mono ?_;rintro e w' ⟨rfl,rfl⟩)|((with_reducible refine aS 38 ?_);refine wpList_load_rowW (by rfl) 52 _ rfl (g6) rfl _ _ (0,0) _ (HS7.out.get 1 rfl) Tryd.underlying52 rfl HXI.out ?_)|((with_reducible refine aS 39 ?_);refine wpList_load_rowW (by rfl) 52 _ rfl (g8) rfl _ _ (0,0) _ (HS7.out.get 2 rfl) Tryd.underlying52 rfl HXI.out ?_)|((with_reducible refine aS 40 ?_);refine wpList_runW (by rfl) (.bool false) (exec_neq (x := .tmp 38) (y := .tmp 39) rfl eg_stop rfl rfl HEQ.out _) ?_))
  all_goals (try simp only [Exit.then])
  go_ret
  exact ⟨rfl,HS7.out.below⟩
end Go.Proofs.YtodnkallpfkdiaaDoor.Ce
