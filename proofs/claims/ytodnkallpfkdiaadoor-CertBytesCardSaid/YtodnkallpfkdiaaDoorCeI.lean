/- portcullislaw16.alive: it answers true. Condition: the document's tables hold what their text lays. -/
import Derived.Test.YtodnkallpfkdiaaDoorCe
import Derived.Test.YtodnkallpfkdiaaDoorSy
import Derived.Test.YtodnkallpfkdiaaDoorRw
set_option maxRecDepth 100000
set_option maxHeartbeats 16000000
set_option linter.unusedSimpArgs false
set_option linter.unusedVariables false
namespace Go.Proofs.YtodnkallpfkdiaaDoor.Ce
open Go.RowKit Lm Fp Cu Sl Sc Rd
/-- The tables of the document's Public. -/
structure TabP (w:World):Prop where
 d:TabD w
 x:TabX w
 y:TabY w
 k:Hb.TabK w
theorem TabP.below {u u':World} (h:TabP u) (b:Below u.heap.size u u'):TabP u':=⟨range_below h.d b,range_below h.x b,range_below h.y b,tabk_below h.k b⟩
theorem build_num1 (w:World):(Instr.build 23 #[(0, .int .u8 1)]).run Tryd.prog w = .ok (.agg (arr .u8 (n32 1))) w:=by kernel_rfl
theorem build_num2 (w:World):(Instr.build 23 #[(0, .int .u8 2)]).run Tryd.prog w = .ok (.agg (arr .u8 (n32 2))) w:=by kernel_rfl
theorem pub_any (s:Nat) (w:World) (h:TabP w):Calls Tryd.prog 27 #[.agg (arr .u8 (n32 s))] w fun e w'=>e = .returned (.agg (arr .u8 (n32 (epub s))))∧Below w.heap.size w w':=rpublic_any s w h.d h.x h.y h.k
theorem k32_pub (s:Nat):K32 (n32 (epub s)) (epub s):=⟨rfl,epub_lt s⟩
theorem alive16_any (w:World) (hT:TabP w):Calls Tryd.prog 22 #[] w fun e w'=>e = .returned (.bool true)∧Below w.heap.size w w':=by
 obtain ⟨x1,x2,x3⟩:=alive16b
 have hp2:=fun (u:World) (h:TabP u)=>pub_any 2 u h
 have hp1:=fun (u:World) (h:TabP u)=>pub_any 1 u h
 have hb1:=build_num1
 have hb2:=build_num2
 have hgl:=esign_len 1 (certT 7 (epub 2))
 have hsg:=fun (u:World)=>sign_any (rs:=n32 1) (ks:=n32 (epub 2)) 1 (epub 2) 7 u ⟨rfl,by decide⟩ (k32_pub 2)
 rw [show certV 1 (epub 2) 7 = .tuple #[.agg (certC 7 (n32 (epub 2)) (esign 1 (certT 7 (epub 2)))), .int .i64 0] by rw [certV,if_pos (by decide),if_pos x1]] at hsg
 have hc1:=fun (u:World)=>check_any (rs:=n32 (epub 1)) (ks:=n32 (epub 2)) (gs:=esign 1 (certT 7 (epub 2))) (epub 1) (epub 2) 7 u (k32_pub 1) (k32_pub 2) hgl (esign_bytes _ _)
 have hc2:=fun (u:World)=>check_any (rs:=n32 (epub 2)) (ks:=n32 (epub 2)) (gs:=esign 1 (certT 7 (epub 2))) (epub 2) (epub 2) 7 u (k32_pub 2) (k32_pub 2) hgl (esign_bytes _ _)
 rw [x2,show okI 7=true by decide] at hc1
 rw [x3,show okI 7=true by decide] at hc2
 have hl2:(n32 (epub 2)).length=32:=n32_len _
 have hcs:=certC_size (id:=7) hgl hl2
 have hc0:=certC_id 7 (n32 (epub 2)) (esign 1 (certT 7 (epub 2)))
 have hone:=certC_one 7 (n32 (epub 2)) (esign 1 (certT 7 (epub 2)))
 obtain ⟨CC,hCC⟩:∃ c,c=certC 7 (n32 (epub 2)) (esign 1 (certT 7 (epub 2))):=⟨_,rfl⟩
 rw [← hCC] at hsg hc1 hc2 hcs hc0 hone
 obtain ⟨p2,hp2e⟩:∃ c,c=n32 (epub 2):=⟨_,rfl⟩
 obtain ⟨p1,hp1e⟩:∃ c,c=n32 (epub 1):=⟨_,rfl⟩
 obtain ⟨n1,hn1⟩:∃ c,c=n32 1:=⟨_,rfl⟩
 obtain ⟨n2,hn2⟩:∃ c,c=n32 2:=⟨_,rfl⟩
 rw [← hp2e] at hl2 hsg hp2 hc2
 rw [← hp1e] at hc1 hp1
 rw [← hn1] at hsg hb1 hp1
 rw [← hn2] at hb2 hp2
 obtain ⟨zc,hzc⟩:∃ c,c=cert0:=⟨_,rfl⟩
 have hzs:cert0.size=97:=certC_size (by simp) (by simp)
 have hz:∀ w,(zeroValue 28).run Tryd.prog w = .ok (.agg cert0) w:=fun w=>zero_cert w
 rw [← hzc] at hzs hz
 obtain ⟨zn,hzn⟩:∃ zs:List Int,zs=List.replicate 32 0:=⟨_,rfl⟩
 have HZzn:Hid (∀ w,(zeroValue 23).run Tryd.prog w = .ok (.agg (arr .u8 zn)) w):=Lib.hid (by intro w;rw [hzn];exact Rd.zero_num w)
 have HLzn:Hid (zn.length=32):=Lib.hid (by rw [hzn];rfl)
 have HP1:=Lib.hid hp1
 have HP2:=Lib.hid hp2
 have HB1:=Lib.hid hb1
 have HB2:=Lib.hid hb2
 have HSG:=Lib.hid hsg
 have HC1:=Lib.hid hc1
 have HC2:=Lib.hid hc2
 have HL2:=Lib.hid hl2
 have HZC:=Lib.hid hz
 have HSZ:Hid (CC.size=zc.size):=Lib.hid (by rw [hcs,hzs])
 have HCI:Hid ((Tryd.prog.info? 28).map (·.size)=some CC.size):=Lib.hid (by rw [hcs];exact size_cert)
 have HC0:=Lib.hid hc0
 have HONE:=Lib.hid hone
 have HT:=Lib.hid hT
 have HI0:=Lib.hid (Blk.nil w)
 have hnum:=fun u=>num16_any 0 u
 have HNUM:=Lib.hid hnum
 clear hnum hT hp1 hp2 hb1 hb2 hsg hc1 hc2 hl2 hz hcs hzs hc0 hone hCC hp2e hp1e hn1 hn2 hzc hzn hgl x1 x2 x3
 go_enter Tryd.func22, Tryd.ntmps22
 go_upto_region 2 with (first|((with_reducible refine aS 4 ?_);refine wpList_build (by rfl) 23 _ rfl #[(0, .int .u8 2)] rfl _ (HB2.out _) ?_)|((with_reducible show Calls _ 27 _ _ _);go_at_call 27; refine (HP2.out _ HT.out).mono ?_;rintro e w1 ⟨rfl,hb1⟩;have HI1:=Lib.hid (HI0.out.kept hb1);clear hb1)|((with_reducible refine aS 1 ?_);refine wpList_alloc_row rfl 23 rfl _ (HZzn.out _) ?_;have HI2:=Lib.hid (HI1.out.alloc (arr .u8 zn) 23);generalize w1.heap.size=g1 at HI2 ⊢; generalize w1.alloc (.cells (arr .u8 zn) 23)=w2 at HI2 ⊢)|((with_reducible refine aT 1 ?_);refine wpList_store_whole rfl 23 _ _ rfl (g1) _ _ 23 (HI2.out.get 0 rfl) rfl rfl (arr_len2 _ _ HL2.out HLzn.out) (Sl.num_s HL2.out) (all_arr _ _) ?_;intro w3 hb3 hk3 hz3;have HI3:=Lib.hid (HI2.out.put 0 rfl hk3 hb3);clear hb3 hk3 hz3))
 (try simp only [World.size_alloc,Act.put,sA,sZ,sS])
 go_upto_region 3 with (first|((with_reducible refine aS 7 ?_);refine wpList_build (by rfl) 23 _ rfl #[(0, .int .u8 1)] rfl _ (HB1.out _) ?_)|((with_reducible refine aS 8 ?_);refine wpList_load_part rfl 23 _ rfl (g1) 0 _ 23 (0,0) _ (HI3.out.get 0 rfl) rfl .u8 p2 (arr_part _ _) Tryd.underlying23 rfl (Sl.num_i HL2.out) ?_)|((with_reducible show Calls _ 23 _ _ _);go_at_call 23; refine (HSG.out _).mono ?_;rintro e w4 ⟨rfl,hb4⟩;have HI4:=Lib.hid (HI3.out.kept hb4);clear hb4)|((with_reducible refine aS 2 ?_);refine wpList_alloc_row rfl 28 rfl _ (HZC.out _) ?_;have HI5:=Lib.hid (HI4.out.alloc zc 28);generalize w4.heap.size=g2 at HI5 ⊢; generalize w4.alloc (.cells zc 28)=w5 at HI5 ⊢)|((with_reducible refine aT 2 ?_);refine wpList_store_whole rfl 28 _ _ rfl (g2) _ _ 28 (HI5.out.get 1 rfl) rfl rfl HSZ.out HCI.out HONE.out ?_;intro w6 hb6 hk6 hz6;have HI6:=Lib.hid (HI5.out.put 1 rfl hk6 hb6);clear hb6 hk6 hz6))
 (try simp only [World.size_alloc,Act.put,sA,sZ,sS])
 (try clear HI0);(try clear HI1);(try clear HI2);(try clear HI3);(try clear HI4);(try clear HI5)
 refine wp_region_sym (T:=fun _=>False) (w:=w) (sy:=[Yv (.int .i64 0),Yv (.int .i64 0),Yv (.bool true),Yv (.bool true),Yp g2 0,Yv (.int .i64 7),Yv (.bool true),Yv (.bool true),Yv (.bool true),Yr .u8 n1,Yr .u8 p1,Yv (.agg CC),Yv (.bool true),Yv (.bool true),Yv (.bool true),Yr .u8 p2,Yv (.agg CC),Yv (.bool false),Yv (.bool true),Yv (.bool true),Yv (.bool true)]) (pt:=[]) (by kernel_rfl) (by kernel_rfl) (by kernel_rfl) HI6.out.holds (fun hW=>?s1) (fun q1 x1 u1 _ hH=>?e1)
 case s1 =>
  refine SyP hW ?_
  refine SyD hW ?_ (fun u _=>(HNUM.out u).mono (by rintro e w' ⟨rfl,rfl⟩;exact ⟨rfl,Below.refl _ _⟩))
  refine SyP hW ?_
  refine SyP hW ?_
  refine SyU (SyP hW ?_)
  refine SyU (SyL1 hW ?_ 1 0 CC 28 HC0.out (d:=_) rfl Tryd.underlying3)
  refine SyU (SyP hW ?_)
  refine SyP hW ?_
  refine SyP hW ?_
  refine SyU (SyB hW ?_ _ _ [(0, .int .u8 1)] (fun u=>HB1.out u))
  refine SyU (SyD hW ?_ (vs:=[.agg (arr .u8 n1)]) (fun u k=>HP1.out u (HT.out.below (kept_below k))))
  refine SyU (SyLa hW ?_ 1 0 CC 28 (all_of CC) Tryd.underlying28 rfl HCI.out)
  refine SyU (SyD hW ?_ (vs:=[.agg (arr .u8 p1), .agg CC]) (fun u _=>HC1.out u))
  refine SyP hW ?_
  refine SyP hW ?_
  refine SyU (SyL hW ?_ 0 0 (arr .u8 p2) 23 rowN HL2.out (arr_part _ _))
  refine SyU (SyLa hW ?_ 1 0 CC 28 (all_of CC) Tryd.underlying28 rfl HCI.out)
  refine SyU (SyD hW ?_ (vs:=[.agg (arr .u8 p2), .agg CC]) (fun u _=>HC2.out u))
  refine SyU (SyP hW ?_)
  refine SyP hW ?_
  refine SyP hW ?_
  exact SyN
 case e1 =>
  have HB1:=Lib.hid (hH.blk [0,1] [(g1,arr .u8 p2, 23),(g2,CC, 28)] (by decide) (by kernel_rfl))
  simp only [lay,Sy.at,den',Yr,Yv,Yp,Yq,Yn,Y0,Yw,Act.put,sA,sZ,sS,Nat.reduceAdd]
  clear hH HI6
  (try simp only [Exit.then])
  go_wp2_with fail
  go_ret
  exact ⟨rfl,HB1.out.below⟩
end Go.Proofs.YtodnkallpfkdiaaDoor.Ce
