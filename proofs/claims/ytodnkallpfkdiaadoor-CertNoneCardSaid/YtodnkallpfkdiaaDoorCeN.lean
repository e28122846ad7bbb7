/- portcullislaw16.CertNone: it answers true. Condition: the arguments' sizes; the tables hold what their text lays. -/
import Derived.Test.YtodnkallpfkdiaaDoorCeV
import Derived.Test.YtodnkallpfkdiaaDoorRm
import Derived.Test.YtodnkallpfkdiaaDoorSyf
set_option maxRecDepth 100000
set_option maxHeartbeats 16000000
set_option linter.unusedSimpArgs false
set_option linter.unusedVariables false
namespace Go.Proofs.YtodnkallpfkdiaaDoor.Ce
open Go.RowKit Lm Fp Cu Sl Sc
theorem exec_lss0 {o:Oper} {ρ:Operand→Value} {ty:TypeId} {x:Operand} {a:Int} (ho:o.op = .binOp .lss 3 x (.const (.int .i64 0)) ty) (e:[x, .const (.int .i64 0)].map ρ=[.int .i64 a, .int .i64 0]) (b:Bool) (h:decide (a < 0)=b) (u:World):(execOp ρ o).run Tryd.prog u = .ok (.value (.bool b)) u:=by
 simp only [List.map_cons,List.map_nil,List.cons.injEq,and_true] at e
 subst h
 simp only [execOp,ho,e.1,e.2]
 go_simp
theorem build_certI (w:World):(Instr.build 28 #[(0, .int .i64 (-1))]).run Tryd.prog w = .ok (.agg (certC (-1) (List.replicate 32 0) (List.replicate 64 0))) w:=by kernel_rfl
theorem build_stopJ (w:World):(Instr.build 52 #[(0, .int .i64 2147483648)]).run Tryd.prog w = .ok (.agg (stopC 2147483648 (List.replicate 64 0))) w:=by kernel_rfl
theorem bytes_rep (n:Nat):bytes (List.replicate n 0):=by
 intro x hx
 have:=List.eq_of_mem_replicate hx
 subst this
 decide
theorem none_any (which:Int) (w:World) (hT:TabP w) (hTi:Rd.TabI w) :
  Calls Tryd.prog 10 #[.int .i64 which] w fun e w'=>e = .returned (.bool true)∧Below w.heap.size w w':=by
 have hal:=fun (u:World) (h:TabP u)=>alive16_any u h
 have hp1:=fun (u:World) (h:TabP u)=>pub_any 1 u h
 have k1:K32 (n32 1) 1:=⟨rfl,by decide⟩
 have k2:K32 (n32 2) 2:=⟨rfl,by decide⟩
 have sa:=fun (u:World)=>sign_any (rs:=n32 1) (ks:=n32 (epub 1)) 1 (epub 1) (-1) u k1 (k32_pub 1)
 have sb:=fun (u:World)=>sign_any (rs:=n32 1) (ks:=n32 (epub 1)) 1 (epub 1) 2147483648 u k1 (k32_pub 1)
 have sc:=fun (u:World)=>sign_any (rs:=n32 1) (ks:=n32 2) 1 2 5 u k1 k2
 rw [show certV 1 (epub 1) (-1) = .tuple #[.agg cert0, .int .i64 1] by rw [certV,if_neg (by decide)]] at sa
 rw [show certV 1 (epub 1) 2147483648 = .tuple #[.agg cert0, .int .i64 1] by rw [certV,if_neg (by decide)]] at sb
 obtain ⟨XC,E,hV,hsz,hone,heq,hE⟩:=certV_is 1 2 5
 have hE2:E=if (eread 2).isSome=true then 0 else 21:=by
  have h2:=hV
  rw [certV,if_pos (by decide)] at h2
  by_cases h:(eread 2).isSome=true
  ·rw [if_pos h] at h2 ⊢
   simp at h2
   exact h2.2.symm
  ·rw [if_neg h] at h2 ⊢
   simp at h2
   exact h2.2.symm
 rw [hV] at sc
 have sd:=fun (u:World)=>stop_any (rs:=n32 1) 1 (-1) u k1
 rw [show stopV 1 (-1) = .tuple #[.agg (stopC 0 (List.replicate 64 0)), .int .i64 1] by rw [stopV,if_neg (by decide)]] at sd
 have se:=fun (u:World)=>packStop_any (gs:=List.replicate 64 0) 2147483648 u (by simp)
 rw [show okI 2147483648=false by decide] at se
 have sf:=fun (u:World)=>readStop_any none 0 0 [] u ⟨rfl,fun i hi=>absurd hi (by omega)⟩ (by intro x hx;cases hx) (by decide)
 rw [show readV [] = .tuple #[.agg (stopC 0 (List.replicate 64 0)), .int .i64 4] by rw [readV,if_neg (by decide)]] at sf
 have hck:=fun (u:World)=>check_any (rs:=n32 (epub 1)) (ks:=List.replicate 32 0) (gs:=List.replicate 64 0) (epub 1) 0 (-1) u (k32_pub 1) k32_zero (by simp) (bytes_rep _)
 rw [show okI (-1)=false by decide] at hck
 simp only [Bool.false_and] at hck
 have hmy:∀ u,TabP u→Rd.TabI u→Calls Tryd.prog 37 #[.agg (arr .u8 (n32 2))] u fun e w'=>e = .returned (.bool (eread 2).isSome)∧Below u.heap.size u w':=fun u h hi=>Rd.may_any 2 u (by decide) h.d hi
 have hb1:=build_num1
 have hb2:=build_num2
 have hbc:=build_certI
 have hbs:=build_stopJ
 obtain ⟨p1,hp1e⟩:∃ x,x=n32 (epub 1):=⟨_,rfl⟩
 have hl1:(n32 (epub 1)).length=32:=n32_len _
 obtain ⟨n1,hn1⟩:∃ x,x=n32 1:=⟨_,rfl⟩
 obtain ⟨n2,hn2⟩:∃ x,x=n32 2:=⟨_,rfl⟩
 rw [← hp1e] at hp1 sa sb hck hl1
 rw [← hn1] at sa sb sc sd hb1 hp1
 rw [← hn2] at sc hb2 hmy
 obtain ⟨zc,hzc⟩:∃ c,c=cert0:=⟨_,rfl⟩
 have hzs:cert0.size=97:=certC_size (by simp) (by simp)
 have hz1:cert0.all (·.oneCell')=true:=certC_one _ _ _
 have hz:∀ w,(zeroValue 28).run Tryd.prog w = .ok (.agg cert0) w:=fun w=>zero_cert w
 rw [← hzc] at hzs hz hz1 sa sb
 obtain ⟨zt,hzt⟩:∃ c,c=stopC 0 (List.replicate 64 0):=⟨_,rfl⟩
 have hts:=stopC_size (id:=0) (gs:=List.replicate 64 0) (by simp)
 have ht1:=stopC_one 0 (List.replicate 64 0)
 have htz:=fun w=>zero_stop w
 rw [← hzt] at hts ht1 htz sd sf
 obtain ⟨zx,hzx⟩:∃ c,c=certC (-1) (List.replicate 32 0) (List.replicate 64 0):=⟨_,rfl⟩
 rw [← hzx] at hck hbc
 obtain ⟨zy,hzy⟩:∃ c,c=stopC 2147483648 (List.replicate 64 0):=⟨_,rfl⟩
 rw [← hzy] at se hbs
 obtain ⟨zn,hzn⟩:∃ zs:List Int,zs=List.replicate 32 0:=⟨_,rfl⟩
 have HZN:Hid (∀ w,(zeroValue 23).run Tryd.prog w = .ok (.agg (arr .u8 zn)) w):=Lib.hid (by intro w;rw [hzn];exact Rd.zero_num w)
 have HLzn:Hid (zn.length=32):=Lib.hid (by rw [hzn];rfl)
 have HAL:=Lib.hid hal
 have HP1:=Lib.hid hp1
 have HSA:=Lib.hid sa
 have HSB:=Lib.hid sb
 have HSC:=Lib.hid sc
 have HSD:=Lib.hid sd
 have HSE:=Lib.hid se
 have HSF:=Lib.hid sf
 have HCK:=Lib.hid hck
 have HB1:=Lib.hid hb1
 have HB2:=Lib.hid hb2
 have HBC:=Lib.hid hbc
 have HBS:=Lib.hid hbs
 have HL1:=Lib.hid hl1
 have HZ:=Lib.hid hz
 have HZI:Hid ((Tryd.prog.info? 28).map (·.size)=some zc.size):=Lib.hid (by rw [hzs];exact size_cert)
 have HZ1:=Lib.hid hz1
 have HTZ:=Lib.hid htz
 have HTI:Hid ((Tryd.prog.info? 52).map (·.size)=some zt.size):=Lib.hid (by rw [hts];exact size_stop)
 have HT1:=Lib.hid ht1
 have HXZ:Hid (XC.size=zc.size):=Lib.hid (by rw [hsz,hzs])
 have HXI:Hid ((Tryd.prog.info? 28).map (·.size)=some XC.size):=Lib.hid (by rw [hsz];exact size_cert)
 have HXO:=Lib.hid hone
 have HT:=Lib.hid hT
 have HTi:=Lib.hid hTi
 have HS0:=Lib.hid (Blk.nil w)
 clear hal hp1 sa sb sc sd se sf hck hb1 hb2 hbc hbs hl1 hz hzs hz1 hts ht1 htz hsz hone heq hE hT hTi hp1e hn1 hn2 hzc hzt hzx hzy hzn hV k1 k2
 cases hem:(eread 2).isSome with
 | false =>
  rw [hem] at hmy hE2
  have HMY:=Lib.hid hmy
  obtain rfl:E=21:=by simpa using hE2
  clear hmy hE2 hem
  go_enter Tryd.func10, Tryd.ntmps10
  go_upto_region 2 with ((with_reducible show Calls _ 22 _ _ _);go_at_call 22; refine (HAL.out _ (HT.out.below HS0.out.below)).mono ?_;rintro e w1 ⟨rfl,hb1⟩;have HS1:=Lib.hid (HS0.out.kept hb1);clear hb1)
  (try simp only [World.size_alloc,Act.put,sA,sZ,sS])
  go_upto_region 3 with (first|((with_reducible refine aS 19 ?_);refine wpList_build (by rfl) 23 _ rfl #[(0, .int .u8 1)] rfl _ (HB1.out _) ?_)|((with_reducible show Calls _ 27 _ _ _);go_at_call 27; refine (HP1.out _ (HT.out.below HS1.out.below)).mono ?_;rintro e w2 ⟨rfl,hb⟩;have HS2:=Lib.hid (HS1.out.kept hb);clear hb)|((with_reducible refine aS 4 ?_);refine wpList_alloc_row rfl 23 rfl _ (HZN.out _) ?_;have HS3:=Lib.hid (HS2.out.alloc (arr .u8 zn) 23);generalize w2.heap.size=g4 at HS3 ⊢; generalize w2.alloc (.cells (arr .u8 zn) 23)=w3 at HS3 ⊢)|((with_reducible refine aT 4 ?_);refine wpList_store_whole rfl 23 _ _ rfl (g4) _ _ 23 (HS3.out.get 0 rfl) rfl rfl (arr_len2 _ _ HL1.out HLzn.out) (Sl.num_s HL1.out) (all_arr _ _) ?_;intro w4 hb hk hz;have HS4:=Lib.hid (HS3.out.put 0 rfl hk hb);clear hb hk hz))
  (try simp only [World.size_alloc,Act.put,sA,sZ,sS])
  go_upto_region 4 with (first|((with_reducible refine aS 22 ?_);refine wpList_build (by rfl) 23 _ rfl #[(0, .int .u8 1)] rfl _ (HB1.out _) ?_)|((with_reducible refine aS 23 ?_);refine wpList_load_part rfl 23 _ rfl (g4) 0 _ 23 (0,0) _ (HS4.out.get 0 rfl) rfl .u8 p1 (arr_part _ _) Tryd.underlying23 rfl (Sl.num_i HL1.out) ?_)|((with_reducible show Calls _ 23 _ _ _);go_at_call 23; refine (HSA.out _).mono ?_;rintro e w5 ⟨rfl,hb⟩;have HS5:=Lib.hid (HS4.out.kept hb);clear hb)|((with_reducible refine aS 5 ?_);refine wpList_alloc_row rfl 28 rfl _ (HZ.out _) ?_;have HS6:=Lib.hid (HS5.out.alloc (zc) 28);generalize w5.heap.size=g5 at HS6 ⊢; generalize w5.alloc (.cells (zc) 28)=w6 at HS6 ⊢)|((with_reducible refine aT 5 ?_);refine wpList_store_whole rfl 28 _ _ rfl (g5) _ _ 28 (HS6.out.get 1 rfl) rfl rfl rfl HZI.out HZ1.out ?_;intro w7 hb hk hz;have HS7:=Lib.hid (HS6.out.put 1 rfl hk hb);clear hb hk hz))
  (try simp only [World.size_alloc,Act.put,sA,sZ,sS])
  go_upto_region 5 with (first|((with_reducible refine aS 28 ?_);refine wpList_build (by rfl) 23 _ rfl #[(0, .int .u8 1)] rfl _ (HB1.out _) ?_)|((with_reducible refine aS 29 ?_);refine wpList_load_part rfl 23 _ rfl (g4) 0 _ 23 (0,0) _ (HS7.out.get 0 rfl) rfl .u8 p1 (arr_part _ _) Tryd.underlying23 rfl (Sl.num_i HL1.out) ?_)|((with_reducible show Calls _ 23 _ _ _);go_at_call 23; refine (HSB.out _).mono ?_;rintro e w8 ⟨rfl,hb⟩;have HS8:=Lib.hid (HS7.out.kept hb);clear hb)|((with_reducible refine aS 7 ?_);refine wpList_alloc_row rfl 28 rfl _ (HZ.out _) ?_;have HS9:=Lib.hid (HS8.out.alloc (zc) 28);generalize w8.heap.size=g7 at HS9 ⊢; generalize w8.alloc (.cells (zc) 28)=w9 at HS9 ⊢)|((with_reducible refine aT 7 ?_);refine wpList_store_whole rfl 28 _ _ rfl (g7) _ _ 28 (HS9.out.get 2 rfl) rfl rfl rfl HZI.out HZ1.out ?_;intro w10 hb hk hz;have HS10:=Lib.hid (HS9.out.put 2 rfl hk hb);clear hb hk hz))
  (try simp only [World.size_alloc,Act.put,sA,sZ,sS])
  go_upto_region 6 with (first|((with_reducible refine aS 34 ?_);refine wpList_build (by rfl) 23 _ rfl #[(0, .int .u8 1)] rfl _ (HB1.out _) ?_)|((with_reducible refine aS 35 ?_);refine wpList_build (by rfl) 23 _ rfl #[(0, .int .u8 2)] rfl _ (HB2.out _) ?_)|((with_reducible show Calls _ 23 _ _ _);go_at_call 23; refine (HSC.out _).mono ?_;rintro e w11 ⟨rfl,hb⟩;have HS11:=Lib.hid (HS10.out.kept hb);clear hb)|((with_reducible refine aS 9 ?_);refine wpList_alloc_row rfl 28 rfl _ (HZ.out _) ?_;have HS12:=Lib.hid (HS11.out.alloc (zc) 28);generalize w11.heap.size=g9 at HS12 ⊢; generalize w11.alloc (.cells (zc) 28)=w12 at HS12 ⊢)|((with_reducible refine aT 9 ?_);refine wpList_store_whole rfl 28 _ _ rfl (g9) _ _ 28 (HS12.out.get 3 rfl) rfl rfl HXZ.out HXI.out HXO.out ?_;intro w13 hb hk hz;have HS13:=Lib.hid (HS12.out.put 3 rfl hk hb);clear hb hk hz))
  (try simp only [World.size_alloc,Act.put,sA,sZ,sS])
  go_upto_region 7 with (first|((with_reducible refine aS 40 ?_);refine wpList_build (by rfl) 23 _ rfl #[(0, .int .u8 1)] rfl _ (HB1.out _) ?_)|((with_reducible show Calls _ 36 _ _ _);go_at_call 36; refine (HSD.out _).mono ?_;rintro e w14 ⟨rfl,hb⟩;have HS14:=Lib.hid (HS13.out.kept hb);clear hb)|((with_reducible refine aS 11 ?_);refine wpList_alloc_row rfl 52 rfl _ (HTZ.out _) ?_;have HS15:=Lib.hid (HS14.out.alloc (zt) 52);generalize w14.heap.size=g11 at HS15 ⊢; generalize w14.alloc (.cells (zt) 52)=w15 at HS15 ⊢)|((with_reducible refine aT 11 ?_);refine wpList_store_whole rfl 52 _ _ rfl (g11) _ _ 52 (HS15.out.get 4 rfl) rfl rfl rfl HTI.out HT1.out ?_;intro w16 hb hk hz;have HS16:=Lib.hid (HS15.out.put 4 rfl hk hb);clear hb hk hz))
  (try simp only [World.size_alloc,Act.put,sA,sZ,sS])
  go_upto_region 8 with (first|((with_reducible refine aS 45 ?_);refine wpList_build (by rfl) 52 _ rfl #[(0, .int .i64 2147483648)] rfl _ (HBS.out _) ?_)|((with_reducible show Calls _ 34 _ _ _);go_at_call 34; refine (HSE.out _).mono ?_;rintro e w17 ⟨v7,rfl, -, hb⟩;have HS17:=Lib.hid (HS16.out.kept hb);clear hb))
  (try simp only [World.size_alloc,Act.put,sA,sZ,sS])
  go_upto_region 9 with (first|((with_reducible show Calls _ 32 _ _ _);go_at_call 32; refine (HSF.out _).mono ?_;rintro e w18 ⟨rfl,hb⟩;have HS18:=Lib.hid (HS17.out.kept hb);clear hb)|((with_reducible refine aS 15 ?_);refine wpList_alloc_row rfl 52 rfl _ (HTZ.out _) ?_;have HS19:=Lib.hid (HS18.out.alloc (zt) 52);generalize w18.heap.size=g15 at HS19 ⊢; generalize w18.alloc (.cells (zt) 52)=w19 at HS19 ⊢)|((with_reducible refine aT 15 ?_);refine wpList_store_whole rfl 52 _ _ rfl (g15) _ _ 52 (HS19.out.get 5 rfl) rfl rfl rfl HTI.out HT1.out ?_;intro w20 hb hk hz;have HS20:=Lib.hid (HS19.out.put 5 rfl hk hb);clear hb hk hz))
  (try simp only [World.size_alloc,Act.put,sA,sZ,sS])
  go_upto_region 12 with (first|((with_reducible refine aS 53 ?_);refine wpList_build (by rfl) 23 _ rfl #[(0, .int .u8 2)] rfl _ (HB2.out _) ?_)|((with_reducible show Calls _ 37 _ _ _);go_at_call 37; refine (HMY.out _ (HT.out.below HS20.out.below) (Rd.range_below HTi.out HS20.out.below)).mono ?_;rintro e w21 ⟨rfl,hb⟩;have HS21:=Lib.hid (HS20.out.kept hb);clear hb))
  (try simp only [World.size_alloc,Act.put,sA,sZ,sS])
  by_cases hw:which < 0
  ·refine wp_region_symF (T:=fun _=>False) (w:=w) (sy:=[Yv (.bool true),Yv (.bool true),Yv (.int .i64 1),Yv (.int .i64 1),Yv (.bool true),Yv (.bool true),Yv (.bool true),Yv (.int .i64 1),Yv (.int .i64 1),Yv (.bool true),Yv (.bool true),Yv (.bool true),Yv (.int .i64 21),Yv (.int .i64 21),Yv (.int .i64 21),Yv (.bool true),Yv (.bool true),Yv (.bool true),Yv (.int .i64 1),Yv (.int .i64 1),Yv (.bool true),Yv (.bool true),Yv (.bool true),Yv (.int .i64 1),Yv (.int .i64 1),Yv (.bool true),Yv (.bool true),Yv (.bool true),Yv (.int .i64 4),Yv (.int .i64 4),Yv (.bool true),Yv (.bool true),Yv (.bool true),Yv (.int .i64 which),Yv (.bool true),Yv (.bool true),Yv undef,Yv undef,Yv undef,Yv undef,Yv (.bool true),Yv (.bool true),Yv (.bool true)]) (pt:=[]) (by kernel_rfl) (by kernel_rfl) HS21.out.holds (fun hW=>?s1) (fun q1 x1 u1 _ hH=>?e1)
   case s1 =>
    refine SyP hW ?_
    refine SyP hW ?_
    refine SyU (SyP hW ?_)
    refine SyU (SyD hW ?_ (vs:=[.int .i64 1]) (fun u _=>(num16_any _ u).mono (by rintro e w' ⟨rfl,rfl⟩;exact ⟨rfl,Below.refl _ _⟩)))
    refine SyU (SyP hW ?_)
    refine SyP hW ?_
    refine SyP hW ?_
    refine SyU (SyP hW ?_)
    refine SyU (SyD hW ?_ (vs:=[.int .i64 1]) (fun u _=>(num16_any _ u).mono (by rintro e w' ⟨rfl,rfl⟩;exact ⟨rfl,Below.refl _ _⟩)))
    refine SyU (SyP hW ?_)
    refine SyP hW ?_
    refine SyP hW ?_
    refine SyU (SyP hW ?_)
    refine SyU (SyD hW ?_ (vs:=[.int .i64 21]) (fun u _=>(num16_any _ u).mono (by rintro e w' ⟨rfl,rfl⟩;exact ⟨rfl,Below.refl _ _⟩)))
    refine SyU (SyP hW ?_)
    refine SyU (SyP hW ?_)
    refine SyP hW ?_
    refine SyP hW ?_
    refine SyU (SyP hW ?_)
    refine SyU (SyD hW ?_ (vs:=[.int .i64 1]) (fun u _=>(num16_any _ u).mono (by rintro e w' ⟨rfl,rfl⟩;exact ⟨rfl,Below.refl _ _⟩)))
    refine SyU (SyP hW ?_)
    refine SyP hW ?_
    refine SyP hW ?_
    refine SyU (SyP hW ?_)
    refine SyU (SyD hW ?_ (vs:=[.int .i64 1]) (fun u _=>(num16_any _ u).mono (by rintro e w' ⟨rfl,rfl⟩;exact ⟨rfl,Below.refl _ _⟩)))
    refine SyU (SyP hW ?_)
    refine SyP hW ?_
    refine SyP hW ?_
    refine SyU (SyP hW ?_)
    refine SyU (SyD hW ?_ (vs:=[.int .i64 4]) (fun u _=>(num16_any _ u).mono (by rintro e w' ⟨rfl,rfl⟩;exact ⟨rfl,Below.refl _ _⟩)))
    refine SyU (SyP hW ?_)
    refine SyP hW ?_
    refine SyP hW ?_
    refine SyU (SyP hW ?_)
    refine SyU (SyX hW ?_ [.tmp 88, .const (.int .i64 0)] [.int .i64 which, .int .i64 0] (fun ρ u _ e=>exec_lss0 rfl e _ (decide_eq_true hw) u))
    refine SyU (SyP hW ?_)
    iterate 4 refine SyKf hW ?_
    refine SyU (SyP hW ?_)
    refine SyP hW ?_
    refine SyP hW ?_
    exact SyN
   case e1 =>
    have HB1:=Lib.hid (hH.blk [0,1,2,3,4,5] [(g4,arr .u8 p1, 23),(g5,zc, 28),(g7,zc, 28),(g9,XC, 28),(g11,zt, 52),(g15,zt, 52)] (by decide) (by kernel_rfl))
    simp only [lay,Sy.at,den',Yr,Yv,Yp,Yq,Yn,Y0,Yw,Act.put,sA,sZ,sS,Nat.reduceAdd]
    clear hH HS21
    (try simp only [Exit.then])
    go_wp2_with fail
    go_ret
    exact ⟨rfl,HB1.out.below⟩
  ·refine wp_region_symF (T:=fun _=>False) (w:=w) (sy:=[Yv (.bool true),Yv (.bool true),Yv (.int .i64 1),Yv (.int .i64 1),Yv (.bool true),Yv (.bool true),Yv (.bool true),Yv (.int .i64 1),Yv (.int .i64 1),Yv (.bool true),Yv (.bool true),Yv (.bool true),Yv (.int .i64 21),Yv (.int .i64 21),Yv (.int .i64 21),Yv (.bool true),Yv (.bool true),Yv (.bool true),Yv (.int .i64 1),Yv (.int .i64 1),Yv (.bool true),Yv (.bool true),Yv (.bool true),Yv (.int .i64 1),Yv (.int .i64 1),Yv (.bool true),Yv (.bool true),Yv (.bool true),Yv (.int .i64 4),Yv (.int .i64 4),Yv (.bool true),Yv (.bool true),Yv (.bool true),Yv (.int .i64 which),Yv (.bool false),Yv (.bool false),Yr .u8 p1,Yv (.agg zx),Yv (.bool false),Yv (.bool true),Yv (.bool true),Yv (.bool true),Yv (.bool true)]) (pt:=[]) (by kernel_rfl) (by kernel_rfl) HS21.out.holds (fun hW=>?s2) (fun q2 x2 u2 _ hH=>?e2)
   case s2 =>
    refine SyP hW ?_
    refine SyP hW ?_
    refine SyU (SyP hW ?_)
    refine SyU (SyD hW ?_ (vs:=[.int .i64 1]) (fun u _=>(num16_any _ u).mono (by rintro e w' ⟨rfl,rfl⟩;exact ⟨rfl,Below.refl _ _⟩)))
    refine SyU (SyP hW ?_)
    refine SyP hW ?_
    refine SyP hW ?_
    refine SyU (SyP hW ?_)
    refine SyU (SyD hW ?_ (vs:=[.int .i64 1]) (fun u _=>(num16_any _ u).mono (by rintro e w' ⟨rfl,rfl⟩;exact ⟨rfl,Below.refl _ _⟩)))
    refine SyU (SyP hW ?_)
    refine SyP hW ?_
    refine SyP hW ?_
    refine SyU (SyP hW ?_)
    refine SyU (SyD hW ?_ (vs:=[.int .i64 21]) (fun u _=>(num16_any _ u).mono (by rintro e w' ⟨rfl,rfl⟩;exact ⟨rfl,Below.refl _ _⟩)))
    refine SyU (SyP hW ?_)
    refine SyU (SyP hW ?_)
    refine SyP hW ?_
    refine SyP hW ?_
    refine SyU (SyP hW ?_)
    refine SyU (SyD hW ?_ (vs:=[.int .i64 1]) (fun u _=>(num16_any _ u).mono (by rintro e w' ⟨rfl,rfl⟩;exact ⟨rfl,Below.refl _ _⟩)))
    refine SyU (SyP hW ?_)
    refine SyP hW ?_
    refine SyP hW ?_
    refine SyU (SyP hW ?_)
    refine SyU (SyD hW ?_ (vs:=[.int .i64 1]) (fun u _=>(num16_any _ u).mono (by rintro e w' ⟨rfl,rfl⟩;exact ⟨rfl,Below.refl _ _⟩)))
    refine SyU (SyP hW ?_)
    refine SyP hW ?_
    refine SyP hW ?_
    refine SyU (SyP hW ?_)
    refine SyU (SyD hW ?_ (vs:=[.int .i64 4]) (fun u _=>(num16_any _ u).mono (by rintro e w' ⟨rfl,rfl⟩;exact ⟨rfl,Below.refl _ _⟩)))
    refine SyU (SyP hW ?_)
    refine SyP hW ?_
    refine SyP hW ?_
    refine SyU (SyP hW ?_)
    refine SyU (SyX hW ?_ [.tmp 88, .const (.int .i64 0)] [.int .i64 which, .int .i64 0] (fun ρ u _ e=>exec_lss0 rfl e _ (decide_eq_false hw) u))
    refine SyU (SyP hW ?_)
    refine SyUf (SyL hW ?_ 0 0 (arr .u8 p1) 23 rowN HL1.out (arr_part _ _))
    refine SyUf (SyB hW ?_ _ _ [(0, .int .i64 (-1))] (fun u=>HBC.out u))
    refine SyUf (SyD hW ?_ (vs:=[.agg (arr .u8 p1), .agg zx]) (fun u _=>HCK.out u))
    refine SyUf (SyP hW ?_)
    refine SyU (SyP hW ?_)
    refine SyP hW ?_
    refine SyP hW ?_
    exact SyN
   case e2 =>
    have HB2:=Lib.hid (hH.blk [0,1,2,3,4,5] [(g4,arr .u8 p1, 23),(g5,zc, 28),(g7,zc, 28),(g9,XC, 28),(g11,zt, 52),(g15,zt, 52)] (by decide) (by kernel_rfl))
    simp only [lay,Sy.at,den',Yr,Yv,Yp,Yq,Yn,Y0,Yw,Act.put,sA,sZ,sS,Nat.reduceAdd]
    clear hH HS21
    (try simp only [Exit.then])
    go_wp2_with fail
    go_ret
    exact ⟨rfl,HB2.out.below⟩
 | true =>
  rw [hem] at hmy hE2
  have HMY:=Lib.hid hmy
  obtain rfl:E=0:=by simpa using hE2
  clear hmy hE2 hem
  go_enter Tryd.func10, Tryd.ntmps10
  go_upto_region 2 with ((with_reducible show Calls _ 22 _ _ _);go_at_call 22; refine (HAL.out _ (HT.out.below HS0.out.below)).mono ?_;rintro e w1 ⟨rfl,hb1⟩;have HS1:=Lib.hid (HS0.out.kept hb1);clear hb1)
  (try simp only [World.size_alloc,Act.put,sA,sZ,sS])
  go_upto_region 3 with (first|((with_reducible refine aS 19 ?_);refine wpList_build (by rfl) 23 _ rfl #[(0, .int .u8 1)] rfl _ (HB1.out _) ?_)|((with_reducible show Calls _ 27 _ _ _);go_at_call 27; refine (HP1.out _ (HT.out.below HS1.out.below)).mono ?_;rintro e w2 ⟨rfl,hb⟩;have HS2:=Lib.hid (HS1.out.kept hb);clear hb)|((with_reducible refine aS 4 ?_);refine wpList_alloc_row rfl 23 rfl _ (HZN.out _) ?_;have HS3:=Lib.hid (HS2.out.alloc (arr .u8 zn) 23);generalize w2.heap.size=g4 at HS3 ⊢; generalize w2.alloc (.cells (arr .u8 zn) 23)=w3 at HS3 ⊢)|((with_reducible refine aT 4 ?_);refine wpList_store_whole rfl 23 _ _ rfl (g4) _ _ 23 (HS3.out.get 0 rfl) rfl rfl (arr_len2 _ _ HL1.out HLzn.out) (Sl.num_s HL1.out) (all_arr _ _) ?_;intro w4 hb hk hz;have HS4:=Lib.hid (HS3.out.put 0 rfl hk hb);clear hb hk hz))
  (try simp only [World.size_alloc,Act.put,sA,sZ,sS])
  go_upto_region 4 with (first|((with_reducible refine aS 22 ?_);refine wpList_build (by rfl) 23 _ rfl #[(0, .int .u8 1)] rfl _ (HB1.out _) ?_)|((with_reducible refine aS 23 ?_);refine wpList_load_part rfl 23 _ rfl (g4) 0 _ 23 (0,0) _ (HS4.out.get 0 rfl) rfl .u8 p1 (arr_part _ _) Tryd.underlying23 rfl (Sl.num_i HL1.out) ?_)|((with_reducible show Calls _ 23 _ _ _);go_at_call 23; refine (HSA.out _).mono ?_;rintro e w5 ⟨rfl,hb⟩;have HS5:=Lib.hid (HS4.out.kept hb);clear hb)|((with_reducible refine aS 5 ?_);refine wpList_alloc_row rfl 28 rfl _ (HZ.out _) ?_;have HS6:=Lib.hid (HS5.out.alloc (zc) 28);generalize w5.heap.size=g5 at HS6 ⊢; generalize w5.alloc (.cells (zc) 28)=w6 at HS6 ⊢)|((with_reducible refine aT 5 ?_);refine wpList_store_whole rfl 28 _ _ rfl (g5) _ _ 28 (HS6.out.get 1 rfl) rfl rfl rfl HZI.out HZ1.out ?_;intro w7 hb hk hz;have HS7:=Lib.hid (HS6.out.put 1 rfl hk hb);clear hb hk hz))
  (try simp only [World.size_alloc,Act.put,sA,sZ,sS])
  go_upto_region 5 with (first|((with_reducible refine aS 28 ?_);refine wpList_build (by rfl) 23 _ rfl #[(0, .int .u8 1)] rfl _ (HB1.out _) ?_)|((with_reducible refine aS 29 ?_);refine wpList_load_part rfl 23 _ rfl (g4) 0 _ 23 (0,0) _ (HS7.out.get 0 rfl) rfl .u8 p1 (arr_part _ _) Tryd.underlying23 rfl (Sl.num_i HL1.out) ?_)|((with_reducible show Calls _ 23 _ _ _);go_at_call 23; refine (HSB.out _).mono ?_;rintro e w8 ⟨rfl,hb⟩;have HS8:=Lib.hid (HS7.out.kept hb);clear hb)|((with_reducible refine aS 7 ?_);refine wpList_alloc_row rfl 28 rfl _ (HZ.out _) ?_;have HS9:=Lib.hid (HS8.out.alloc (zc) 28);generalize w8.heap.size=g7 at HS9 ⊢; generalize w8.alloc (.cells (zc) 28)=w9 at HS9 ⊢)|((with_reducible refine aT 7 ?_);refine wpList_store_whole rfl 28 _ _ rfl (g7) _ _ 28 (HS9.out.get 2 rfl) rfl rfl rfl HZI.out HZ1.out ?_;intro w10 hb hk hz;have HS10:=Lib.hid (HS9.out.put 2 rfl hk hb);clear hb hk hz))
  (try simp only [World.size_alloc,Act.put,sA,sZ,sS])
  go_upto_region 6 with (first|((with_reducible refine aS 34 ?_);refine wpList_build (by rfl) 23 _ rfl #[(0, .int .u8 1)] rfl _ (HB1.out _) ?_)|((with_reducible refine aS 35 ?_);refine wpList_build (by rfl) 23 _ rfl #[(0, .int .u8 2)] rfl _ (HB2.out _) ?_)|((with_reducible show Calls _ 23 _ _ _);go_at_call 23; refine (HSC.out _).mono ?_;rintro e w11 ⟨rfl,hb⟩;have HS11:=Lib.hid (HS10.out.kept hb);clear hb)|((with_reducible refine aS 9 ?_);refine wpList_alloc_row rfl 28 rfl _ (HZ.out _) ?_;have HS12:=Lib.hid (HS11.out.alloc (zc) 28);generalize w11.heap.size=g9 at HS12 ⊢; generalize w11.alloc (.cells (zc) 28)=w12 at HS12 ⊢)|((with_reducible refine aT 9 ?_);refine wpList_store_whole rfl 28 _ _ rfl (g9) _ _ 28 (HS12.out.get 3 rfl) rfl rfl HXZ.out HXI.out HXO.out ?_;intro w13 hb hk hz;have HS13:=Lib.hid (HS12.out.put 3 rfl hk hb);clear hb hk hz))
  (try simp only [World.size_alloc,Act.put,sA,sZ,sS])
  go_upto_region 7 with (first|((with_reducible refine aS 40 ?_);refine wpList_build (by rfl) 23 _ rfl #[(0, .int .u8 1)] rfl _ (HB1.out _) ?_)|((with_reducible show Calls _ 36 _ _ _);go_at_call 36; refine (HSD.out _).mono ?_;rintro e w14 ⟨rfl,hb⟩;have HS14:=Lib.hid (HS13.out.kept hb);clear hb)|((with_reducible refine aS 11 ?_);refine wpList_alloc_row rfl 52 rfl _ (HTZ.out _) ?_;have HS15:=Lib.hid (HS14.out.alloc (zt) 52);generalize w14.heap.size=g11 at HS15 ⊢; generalize w14.alloc (.cells (zt) 52)=w15 at HS15 ⊢)|((with_reducible refine aT 11 ?_);refine wpList_store_whole rfl 52 _ _ rfl (g11) _ _ 52 (HS15.out.get 4 rfl) rfl rfl rfl HTI.out HT1.out ?_;intro w16 hb hk hz;have HS16:=Lib.hid (HS15.out.put 4 rfl hk hb);clear hb hk hz))
  (try simp only [World.size_alloc,Act.put,sA,sZ,sS])
  go_upto_region 8 with (first|((with_reducible refine aS 45 ?_);refine wpList_build (by rfl) 52 _ rfl #[(0, .int .i64 2147483648)] rfl _ (HBS.out _) ?_)|((with_reducible show Calls _ 34 _ _ _);go_at_call 34; refine (HSE.out _).mono ?_;rintro e w17 ⟨v7,rfl, -, hb⟩;have HS17:=Lib.hid (HS16.out.kept hb);clear hb))
  (try simp only [World.size_alloc,Act.put,sA,sZ,sS])
  go_upto_region 9 with (first|((with_reducible show Calls _ 32 _ _ _);go_at_call 32; refine (HSF.out _).mono ?_;rintro e w18 ⟨rfl,hb⟩;have HS18:=Lib.hid (HS17.out.kept hb);clear hb)|((with_reducible refine aS 15 ?_);refine wpList_alloc_row rfl 52 rfl _ (HTZ.out _) ?_;have HS19:=Lib.hid (HS18.out.alloc (zt) 52);generalize w18.heap.size=g15 at HS19 ⊢; generalize w18.alloc (.cells (zt) 52)=w19 at HS19 ⊢)|((with_reducible refine aT 15 ?_);refine wpList_store_whole rfl 52 _ _ rfl (g15) _ _ 52 (HS19.out.get 5 rfl) rfl rfl rfl HTI.out HT1.out ?_;intro w20 hb hk hz;have HS20:=Lib.hid (HS19.out.put 5 rfl hk hb);clear hb hk hz))
  (try simp only [World.size_alloc,Act.put,sA,sZ,sS])
  go_upto_region 12 with (first|((with_reducible refine aS 53 ?_);refine wpList_build (by rfl) 23 _ rfl #[(0, .int .u8 2)] rfl _ (HB2.out _) ?_)|((with_reducible show Calls _ 37 _ _ _);go_at_call 37; refine (HMY.out _ (HT.out.below HS20.out.below) (Rd.range_below HTi.out HS20.out.below)).mono ?_;rintro e w21 ⟨rfl,hb⟩;have HS21:=Lib.hid (HS20.out.kept hb);clear hb))
  (try simp only [World.size_alloc,Act.put,sA,sZ,sS])
  by_cases hw:which < 0
  ·refine wp_region_symF (T:=fun _=>False) (w:=w) (sy:=[Yv (.bool true),Yv (.bool true),Yv (.int .i64 1),Yv (.int .i64 1),Yv (.bool true),Yv (.bool true),Yv (.bool true),Yv (.int .i64 1),Yv (.int .i64 1),Yv (.bool true),Yv (.bool true),Yv (.bool true),Yv (.int .i64 0),Yv (.int .i64 0),Yv (.int .i64 0),Yv (.bool true),Yv (.bool true),Yv (.bool true),Yv (.int .i64 1),Yv (.int .i64 1),Yv (.bool true),Yv (.bool true),Yv (.bool true),Yv (.int .i64 1),Yv (.int .i64 1),Yv (.bool true),Yv (.bool true),Yv (.bool true),Yv (.int .i64 4),Yv (.int .i64 4),Yv (.bool true),Yv (.bool true),Yv (.bool true),Yv (.int .i64 which),Yv (.bool true),Yv (.bool true),Yv undef,Yv undef,Yv undef,Yv undef,Yv (.bool true),Yv (.bool true),Yv (.bool true)]) (pt:=[]) (by kernel_rfl) (by kernel_rfl) HS21.out.holds (fun hW=>?s1) (fun q1 x1 u1 _ hH=>?e1)
   case s1 =>
    refine SyP hW ?_
    refine SyP hW ?_
    refine SyU (SyP hW ?_)
    refine SyU (SyD hW ?_ (vs:=[.int .i64 1]) (fun u _=>(num16_any _ u).mono (by rintro e w' ⟨rfl,rfl⟩;exact ⟨rfl,Below.refl _ _⟩)))
    refine SyU (SyP hW ?_)
    refine SyP hW ?_
    refine SyP hW ?_
    refine SyU (SyP hW ?_)
    refine SyU (SyD hW ?_ (vs:=[.int .i64 1]) (fun u _=>(num16_any _ u).mono (by rintro e w' ⟨rfl,rfl⟩;exact ⟨rfl,Below.refl _ _⟩)))
    refine SyU (SyP hW ?_)
    refine SyP hW ?_
    refine SyP hW ?_
    refine SyU (SyP hW ?_)
    refine SyU (SyD hW ?_ (vs:=[.int .i64 0]) (fun u _=>(num16_any _ u).mono (by rintro e w' ⟨rfl,rfl⟩;exact ⟨rfl,Below.refl _ _⟩)))
    refine SyU (SyP hW ?_)
    refine SyU (SyP hW ?_)
    refine SyP hW ?_
    refine SyP hW ?_
    refine SyU (SyP hW ?_)
    refine SyU (SyD hW ?_ (vs:=[.int .i64 1]) (fun u _=>(num16_any _ u).mono (by rintro e w' ⟨rfl,rfl⟩;exact ⟨rfl,Below.refl _ _⟩)))
    refine SyU (SyP hW ?_)
    refine SyP hW ?_
    refine SyP hW ?_
    refine SyU (SyP hW ?_)
    refine SyU (SyD hW ?_ (vs:=[.int .i64 1]) (fun u _=>(num16_any _ u).mono (by rintro e w' ⟨rfl,rfl⟩;exact ⟨rfl,Below.refl _ _⟩)))
    refine SyU (SyP hW ?_)
    refine SyP hW ?_
    refine SyP hW ?_
    refine SyU (SyP hW ?_)
    refine SyU (SyD hW ?_ (vs:=[.int .i64 4]) (fun u _=>(num16_any _ u).mono (by rintro e w' ⟨rfl,rfl⟩;exact ⟨rfl,Below.refl _ _⟩)))
    refine SyU (SyP hW ?_)
    refine SyP hW ?_
    refine SyP hW ?_
    refine SyU (SyP hW ?_)
    refine SyU (SyX hW ?_ [.tmp 88, .const (.int .i64 0)] [.int .i64 which, .int .i64 0] (fun ρ u _ e=>exec_lss0 rfl e _ (decide_eq_true hw) u))
    refine SyU (SyP hW ?_)
    iterate 4 refine SyKf hW ?_
    refine SyU (SyP hW ?_)
    refine SyP hW ?_
    refine SyP hW ?_
    exact SyN
   case e1 =>
    have HB1:=Lib.hid (hH.blk [0,1,2,3,4,5] [(g4,arr .u8 p1, 23),(g5,zc, 28),(g7,zc, 28),(g9,XC, 28),(g11,zt, 52),(g15,zt, 52)] (by decide) (by kernel_rfl))
    simp only [lay,Sy.at,den',Yr,Yv,Yp,Yq,Yn,Y0,Yw,Act.put,sA,sZ,sS,Nat.reduceAdd]
    clear hH HS21
    (try simp only [Exit.then])
    go_wp2_with fail
    go_ret
    exact ⟨rfl,HB1.out.below⟩
  ·refine wp_region_symF (T:=fun _=>False) (w:=w) (sy:=[Yv (.bool true),Yv (.bool true),Yv (.int .i64 1),Yv (.int .i64 1),Yv (.bool true),Yv (.bool true),Yv (.bool true),Yv (.int .i64 1),Yv (.int .i64 1),Yv (.bool true),Yv (.bool true),Yv (.bool true),Yv (.int .i64 0),Yv (.int .i64 0),Yv (.int .i64 0),Yv (.bool true),Yv (.bool true),Yv (.bool true),Yv (.int .i64 1),Yv (.int .i64 1),Yv (.bool true),Yv (.bool true),Yv (.bool true),Yv (.int .i64 1),Yv (.int .i64 1),Yv (.bool true),Yv (.bool true),Yv (.bool true),Yv (.int .i64 4),Yv (.int .i64 4),Yv (.bool true),Yv (.bool true),Yv (.bool true),Yv (.int .i64 which),Yv (.bool false),Yv (.bool false),Yr .u8 p1,Yv (.agg zx),Yv (.bool false),Yv (.bool true),Yv (.bool true),Yv (.bool true),Yv (.bool true)]) (pt:=[]) (by kernel_rfl) (by kernel_rfl) HS21.out.holds (fun hW=>?s2) (fun q2 x2 u2 _ hH=>?e2)
   case s2 =>
    refine SyP hW ?_
    refine SyP hW ?_
    refine SyU (SyP hW ?_)
    refine SyU (SyD hW ?_ (vs:=[.int .i64 1]) (fun u _=>(num16_any _ u).mono (by rintro e w' ⟨rfl,rfl⟩;exact ⟨rfl,Below.refl _ _⟩)))
    refine SyU (SyP hW ?_)
    refine SyP hW ?_
    refine SyP hW ?_
    refine SyU (SyP hW ?_)
    refine SyU (SyD hW ?_ (vs:=[.int .i64 1]) (fun u _=>(num16_any _ u).mono (by rintro e w' ⟨rfl,rfl⟩;exact ⟨rfl,Below.refl _ _⟩)))
    refine SyU (SyP hW ?_)
    refine SyP hW ?_
    refine SyP hW ?_
    refine SyU (SyP hW ?_)
    refine SyU (SyD hW ?_ (vs:=[.int .i64 0]) (fun u _=>(num16_any _ u).mono (by rintro e w' ⟨rfl,rfl⟩;exact ⟨rfl,Below.refl _ _⟩)))
    refine SyU (SyP hW ?_)
    refine SyU (SyP hW ?_)
    refine SyP hW ?_
    refine SyP hW ?_
    refine SyU (SyP hW ?_)
    refine SyU (SyD hW ?_ (vs:=[.int .i64 1]) (fun u _=>(num16_any _ u).mono (by rintro e w' ⟨rfl,rfl⟩;exact ⟨rfl,Below.refl _ _⟩)))
    refine SyU (SyP hW ?_)
    refine SyP hW ?_
    refine SyP hW ?_
    refine SyU (SyP hW ?_)
    refine SyU (SyD hW ?_ (vs:=[.int .i64 1]) (fun u _=>(num16_any _ u).mono (by rintro e w' ⟨rfl,rfl⟩;exact ⟨rfl,Below.refl _ _⟩)))
    refine SyU (SyP hW ?_)
    refine SyP hW ?_
    refine SyP hW ?_
    refine SyU (SyP hW ?_)
    refine SyU (SyD hW ?_ (vs:=[.int .i64 4]) (fun u _=>(num16_any _ u).mono (by rintro e w' ⟨rfl,rfl⟩;exact ⟨rfl,Below.refl _ _⟩)))
    refine SyU (SyP hW ?_)
    refine SyP hW ?_
    refine SyP hW ?_
    refine SyU (SyP hW ?_)
    refine SyU (SyX hW ?_ [.tmp 88, .const (.int .i64 0)] [.int .i64 which, .int .i64 0] (fun ρ u _ e=>exec_lss0 rfl e _ (decide_eq_false hw) u))
    refine SyU (SyP hW ?_)
    refine SyUf (SyL hW ?_ 0 0 (arr .u8 p1) 23 rowN HL1.out (arr_part _ _))
    refine SyUf (SyB hW ?_ _ _ [(0, .int .i64 (-1))] (fun u=>HBC.out u))
    refine SyUf (SyD hW ?_ (vs:=[.agg (arr .u8 p1), .agg zx]) (fun u _=>HCK.out u))
    refine SyUf (SyP hW ?_)
    refine SyU (SyP hW ?_)
    refine SyP hW ?_
    refine SyP hW ?_
    exact SyN
   case e2 =>
    have HB2:=Lib.hid (hH.blk [0,1,2,3,4,5] [(g4,arr .u8 p1, 23),(g5,zc, 28),(g7,zc, 28),(g9,XC, 28),(g11,zt, 52),(g15,zt, 52)] (by decide) (by kernel_rfl))
    simp only [lay,Sy.at,den',Yr,Yv,Yp,Yq,Yn,Y0,Yw,Act.put,sA,sZ,sS,Nat.reduceAdd]
    clear hH HS21
    (try simp only [Exit.then])
    go_wp2_with fail
    go_ret
    exact ⟨rfl,HB2.out.below⟩
end Go.Proofs.YtodnkallpfkdiaaDoor.Ce
