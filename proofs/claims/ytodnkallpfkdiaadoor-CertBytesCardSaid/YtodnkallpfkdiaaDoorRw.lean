/- The document's wide: what they answer. Condition: 32 bytes; lists of the call's size; the tables hold what their text lays. The document's parts and Public: what they answer. Condition: 32 bytes; the tables hold what their text lays. -/
import Derived.Test.YtodnkallpfkdiaaDoorRg
import Derived.Test.YtodnkallpfkdiaaDoorHr
import Derived.Test.YtodnkallpfkdiaaDoorMx
import Derived.Test.YtodnkallpfkdiaaDoorCc
set_option maxRecDepth 100000
set_option maxHeartbeats 16000000
set_option linter.unusedSimpArgs false
set_option linter.unusedVariables false
namespace Go.Proofs.YtodnkallpfkdiaaDoor.Rd
open Go.RowKit Lm Fp Cu Sc
theorem tabk_below {a b:World} (h:Hb.TabK a) (k:Below a.heap.size a b):Hb.TabK b:=fun t ht=>(Kept.of_below k (T:=fun _=>False)).cellX (h t ht) id
theorem h512:(2:Nat) ^ 512=256 ^ 64:=by
 have:=Nat.pow_mul 2 8 64
 rw [show 8 * 64=512 from rfl,show (2:Nat) ^ 8=256 from rfl] at this
 exact this
theorem own_src {w:World} {B:Nat} {v:Value} {xs:List Int} (h:Own8 w B v xs):∃ s c,v = .slice s xs.length c∧Src w s xs.length xs:=by
 obtain ⟨s,c,rfl,_,_,hs,_⟩:=h.form
 exact ⟨s,c,rfl,hs⟩
theorem wide_any (sa:Option Addr) (n c:Nat) (L:List (List Int)) (w:World) (hs:SrcL w sa n L) (hb:∀ l∈L,bytes l) (hN:L.flatten.length≤1099511627776) (hn:n≤1099511627776) (hk:Hb.TabK w) (hT:TabQ w) :
  Calls Tryd.prog 89 #[.slice sa n c] w fun e w'=>e = .returned (.agg (arr .u8 (n32 (wide L.flatten))))∧Below w.heap.size w w':=by
 have hbf:bytes L.flatten:=by intro x hx;obtain ⟨l,hl,hx⟩:=List.mem_flatten.1 hx;exact hb l hl x hx
 have hj:∀ (u:World),SrcL u sa n L→Calls Tryd.prog 134 #[.slice sa n c] u fun e w'=>∃ s cc,e = .returned (.slice s L.flatten.length cc)∧Src w' s L.flatten.length L.flatten∧Below u.heap.size u w':=by
  intro u h
  refine (join_any sa n c L u h hN hn).mono ?_
  rintro e w' ⟨v,rfl,h1,h2⟩
  obtain ⟨s,cc,rfl,h3⟩:=own_src h1
  exact ⟨s,cc,rfl,h3,h2⟩
 have hsh:=fun (u:World) (s:Option Addr) (c:Nat) (h:Src u s L.flatten.length L.flatten) (hk:Hb.TabK u)=>Hb.ref_any s L.flatten.length c L.flatten u h hbf (by omega) hk
 have hh:=hash_bytes' L.flatten
 have hl:=Hb.hash_len L.flatten
 have hwd:wide L.flatten=hnum (Hb.hash L.flatten) % q:=rfl
 rw [hwd]
 obtain ⟨hs',hhs⟩:∃ h,h=Hb.hash L.flatten:=⟨_,rfl⟩
 rw [← hhs] at hsh hh hl ⊢
 have hd:=dig_hnum hh
 rw [hl] at hd
 have hV:=hnum_lt hh
 rw [hl] at hV
 obtain ⟨V,hVe⟩:∃ v,v=hnum hs':=⟨_,rfl⟩
 rw [← hVe] at hd hV ⊢
 generalize hLL:L.flatten.length=m at hj hsh
 have HRED:Hid (∀ (sa:Option Addr) (u:World),Src u sa 64 hs'→TabQ u→Calls Tryd.prog 135 #[.slice sa 64 64] u fun e w'=>e = .returned (.agg (arr .u8 (n32 (V % q))))∧Below u.heap.size u w'):=Lib.hid (fun sa u h hT=>reduce_any sa 64 V u (by rw [hd];exact h) (by rw [h512];exact hV) hT)
 obtain ⟨ro,hro⟩:∃ r,r=n32 (V % q):=⟨_,rfl⟩
 rw [← hro] at HRED ⊢
 have HRL:Hid (ro.length=32):=Lib.hid (by rw [hro];exact n32_len _)
 have HJ:=Lib.hid hj
 have HSH:=Lib.hid hsh
 have HSL:=Lib.hid hl
 have HS:=Lib.hid hs
 have HK:=Lib.hid hk
 have HT:=Lib.hid hT
 obtain ⟨zn,hzn⟩:∃ zs:List Int,zs=List.replicate 32 0:=⟨_,rfl⟩
 have HZzn:Hid (∀ w,(zeroValue 23).run Tryd.prog w = .ok (.agg (arr .u8 zn)) w):=Lib.hid (by intro w;rw [hzn];exact zero_num w)
 have HLzn:Hid (zn.length=32):=Lib.hid (by rw [hzn];rfl)
 obtain ⟨zs64,hzs64⟩:∃ zs:List Int,zs=List.replicate 64 0:=⟨_,rfl⟩
 have HZzs64:Hid (∀ w,(zeroValue 26).run Tryd.prog w = .ok (.agg (arr .u8 zs64)) w):=Lib.hid (by intro w;rw [hzs64];exact Sl.zero_sig w)
 have HLzs64:Hid (zs64.length=64):=Lib.hid (by rw [hzs64];rfl)
 have HS0:=Lib.hid (Blk.one w (arr .u8 zn) 23)
 clear hLL hzn hzs64 hs hb hbf hj hsh hh hl hwd hhs hd hV hVe hro hk hT hN hn
 go_enter Tryd.func89, Tryd.ntmps89
 go_upto_region 1 with (first|((with_reducible refine aS 2 ?_);refine wpList_alloc_row rfl 23 rfl _ (HZzn.out _) ?_))
 (try simp only [World.size_alloc,Act.put,sA,sZ,sS])
 generalize (w.alloc (.cells (arr .u8 zn) 23))=wb at HS0 ⊢
 go_upto_region 2 with (first|((with_reducible show Calls _ 134 _ _ _);go_at_call 134; refine (HJ.out _ (HS.out.below HS0.out.below)).mono ?_;rintro e w1 ⟨sj,cj,rfl,h1,hb1⟩;have HSJ:=Lib.hid h1;have HB1:=Lib.hid (HS0.out.kept hb1);clear h1 hb1)|((with_reducible show Calls _ 94 _ _ _);go_at_call 94; refine (HSH.out _ _ _ HSJ.out (tabk_below HK.out HB1.out.below)).mono ?_;rintro e w2 ⟨rfl,hb2⟩;have HB2:=Lib.hid (HB1.out.kept hb2);clear hb2)|((with_reducible refine aS 3 ?_);refine wpList_alloc_row rfl 26 rfl _ (HZzs64.out _) ?_;have HB3:=Lib.hid (HB2.out.alloc (arr .u8 zs64) 26);generalize w2.heap.size=g5 at HB3 ⊢; generalize w2.alloc (.cells (arr .u8 zs64) 26)=w3 at HB3 ⊢)|((with_reducible refine aT 3 ?_);refine wpList_store_whole rfl 26 _ _ rfl (g5) _ _ 26 (HB3.out.get 1 rfl) rfl rfl (arr_len2 _ _ HSL.out HLzs64.out) (Sl.sig_s HSL.out) (all_arr _ _) ?_;intro w4 hb4 hk4 hz4;have HB4:=Lib.hid (HB3.out.put 1 rfl hk4 hb4);clear hb4 hk4 hz4))
 (try simp only [World.size_alloc,Act.put,sA,sZ,sS])
 go_wp2_with (first|((with_reducible show Calls _ 135 _ _ _);go_at_call 135; refine (HRED.out _ _ (Sl.src_all (HB4.out.get 1 rfl) 64 HSL.out) (HT.out.below HB4.out.below)).mono ?_;rintro e w5 ⟨rfl,hb5⟩;have HB5:=Lib.hid (HB4.out.kept hb5);clear hb5)|((with_reducible refine aT 2 ?_);refine wpList_store_whole rfl 23 _ _ rfl (w.heap.size) _ _ 23 (HB5.out.get 0 rfl) rfl rfl (arr_len2 _ _ HRL.out HLzn.out) (num_s HRL.out) (all_arr _ _) ?_;intro w6 hb6 hk6 hz6;have HB6:=Lib.hid (HB5.out.put 0 rfl hk6 hb6);clear hb6 hk6 hz6))
 (try simp only [Exit.then])
 refine bodyPost_ret (results_cell_row rfl _ _ (w.heap.size) 23 _ (0,0) _ rfl (HB6.out.get 0 rfl) Tryd.underlying23 rfl (num_s HRL.out)) rfl ?_
 exact ⟨rfl,HB6.out.below⟩
end Go.Proofs.YtodnkallpfkdiaaDoor.Rd
namespace Go.Proofs.YtodnkallpfkdiaaDoor.Rd
open Go.RowKit Lm Fp Cu Sc
theorem rparts_any (seed:Nat) (w:World) (hTK:Hb.TabK w) :
  Calls Tryd.prog 60 #[.agg (arr .u8 (n32 seed))] w fun e w'=>∃ g c cur,e = .returned (.tuple #[.agg (arr .u8 (n32 (spart seed))), .slice (some ⟨g,0,none⟩) 32 c])∧(w'.heap[g]? = some (.cells cur 5 (0,0))∧w.heap.size≤g∧32≤c∧cur.toList.take 32=(srest seed).map (Value.int .u8))∧Below w.heap.size w w':=by
 have hkb:=n32_bytes seed
 have hkl:=n32_len seed
 have hh:bytes (Hb.hash (n32 seed)):=hash_bytes' (n32 seed)
 have hl:(Hb.hash (n32 seed)).length=64:=Hb.hash_len (n32 seed)
 have h32:(Hb.hash (n32 seed)).take 32=n32 (hnum ((Hb.hash (n32 seed)).take 32)):=(n32_hnum (bytes_take hh 32) (by rw [List.length_take,hl];rfl)).symm
 have hlt:hnum ((Hb.hash (n32 seed)).take 32) < 2 ^ 256:=by
  have:=hnum_lt (bytes_take hh 32)
  rw [List.length_take,hl] at this
  rwa [show (2:Nat) ^ 256=256 ^ 32 by decide]
 have hsp:spart seed=clamp (hnum ((Hb.hash (n32 seed)).take 32)):=rfl
 have hsr:srest seed=(Hb.hash (n32 seed)).drop 32:=rfl
 have hcl:=fun (u:World)=>clamped_any (hnum ((Hb.hash (n32 seed)).take 32)) u hlt
 rw [← hsp] at hcl
 rw [show nar (dig 256 32 (hnum ((Hb.hash (n32 seed)).take 32)))=n32 (hnum ((Hb.hash (n32 seed)).take 32)) from rfl,← h32] at hcl
 have hsh:=fun (u:World) (g:Nat) (t:TypeId) (h:u.heap[g]? = some (.cells (arr .u8 (n32 seed)) t (0,0))) (hk:Hb.TabK u)=>Hb.ref_any (some ⟨g,0,none⟩) 32 32 (n32 seed) u (Sl.src_all h 32 hkl) hkb (by decide) hk
 obtain ⟨sp,hspp⟩:∃ x,x=n32 (spart seed):=⟨_,rfl⟩
 rw [show nar (dig 256 32 (spart seed))=n32 (spart seed) from rfl,← hspp] at hcl
 rw [← hspp]
 have HSPL:Hid (sp.length=32):=Lib.hid (by rw [hspp];exact n32_len _)
 rw [hsr]
 obtain ⟨ks,hks⟩:∃ x,x=n32 seed:=⟨_,rfl⟩
 rw [← hks] at hsh hl hcl hkl ⊢
 obtain ⟨hs,hhs⟩:∃ x,x=Hb.hash ks:=⟨_,rfl⟩
 rw [← hhs] at hsh hl hcl ⊢
 obtain ⟨hx0,hh0⟩:∃ x,x=hs.take 32:=⟨_,rfl⟩
 have hs0:=fun (u:World) (g:Nat) (h:u.heap[g]? = some (.cells (arr .u8 hs) 26 (0,0)))=>Sl.src_off h 0 32 (by rw [hl];decide)
 rw [List.drop_zero,← hh0] at hs0
 rw [← hh0] at hcl
 have hs1:=fun (u:World) (g:Nat) (h:u.heap[g]? = some (.cells (arr .u8 hs) 26 (0,0)))=>Sl.src_off h 32 32 (by rw [hl];decide)
 obtain ⟨hx1,hh1⟩:∃ x,x=hs.drop 32:=⟨_,rfl⟩
 rw [← hh1,List.take_of_length_le (show hx1.length≤32 by rw [hh1,List.length_drop,hl];decide)] at hs1
 rw [← hh1]
 have H0L:Hid (hx0.length=32):=Lib.hid (by rw [hh0,List.length_take,hl];rfl)
 have H1L:Hid (hx1.length=32):=Lib.hid (by rw [hh1,List.length_drop,hl])
 have HKL:=Lib.hid hkl
 have HSL:=Lib.hid hl
 have HCL:=Lib.hid hcl
 have HSH:=Lib.hid hsh
 have HSR:=Lib.hid hs0
 have HS1:=Lib.hid hs1
 have HTK:=Lib.hid hTK
 obtain ⟨zn,hzn⟩:∃ zs:List Int,zs=List.replicate 32 0:=⟨_,rfl⟩
 have HZzn:Hid (∀ w,(zeroValue 23).run Tryd.prog w = .ok (.agg (arr .u8 zn)) w):=Lib.hid (by intro w;rw [hzn];exact zero_num w)
 have HLzn:Hid (zn.length=32):=Lib.hid (by rw [hzn];rfl)
 obtain ⟨zs64,hzs64⟩:∃ zs:List Int,zs=List.replicate 64 0:=⟨_,rfl⟩
 have HZzs64:Hid (∀ w,(zeroValue 26).run Tryd.prog w = .ok (.agg (arr .u8 zs64)) w):=Lib.hid (by intro w;rw [hzs64];exact Sl.zero_sig w)
 have HLzs64:Hid (zs64.length=64):=Lib.hid (by rw [hzs64];rfl)
 have HI0:=Lib.hid (Blk.two w (arr .u8 ks) (arr .u8 zn) 23 23)
 clear hzn hzs64 hkb hkl hh hl h32 hlt hsp hsr hcl hsh hspp hks hhs hh0 hs0 hs1 hh1 hTK
 go_enter Tryd.func60, Tryd.ntmps60
 go_upto_region 1 with (first|((with_reducible refine aS 2 ?_);refine wpList_alloc_row rfl 23 rfl _ (HZzn.out _) ?_))
 (try simp only [World.size_alloc,Act.put,sA,sZ,sS])
 generalize ((w.alloc (.cells (arr .u8 ks) 23)).alloc (.cells (arr .u8 zn) 23))=wb at HI0 ⊢
 go_upto_region 2 with (first|((with_reducible show Calls _ 94 _ _ _);go_at_call 94; refine (HSH.out _ _ _ (HI0.out.get 0 rfl) (tabk_below HTK.out HI0.out.below)).mono ?_;rintro e w1 ⟨rfl,hb1⟩;have HI1:=Lib.hid (HI0.out.kept hb1);clear hb1)|((with_reducible refine aS 4 ?_);refine wpList_alloc_row rfl 26 rfl _ (HZzs64.out _) ?_;have HI2:=Lib.hid (HI1.out.alloc (arr .u8 zs64) 26);generalize w1.heap.size=g4 at HI2 ⊢; generalize w1.alloc (.cells (arr .u8 zs64) 26)=w2 at HI2 ⊢)|((with_reducible refine aT 4 ?_);refine wpList_store_whole rfl 26 _ _ rfl (g4) _ _ 26 (HI2.out.get 2 rfl) rfl rfl (arr_len2 _ _ HSL.out HLzs64.out) (Sl.sig_s HSL.out) (all_arr _ _) ?_;intro w3 hb3 hk3 hz3;have HI3:=Lib.hid (HI2.out.put 2 rfl hk3 hb3);clear hb3 hk3 hz3))
 (try simp only [World.size_alloc,Act.put,sA,sZ,sS])
 go_upto_region 3 with (first|((with_reducible refine aS 5 ?_);refine wpList_alloc_row rfl 23 rfl _ (HZzn.out _) ?_;have HI4:=Lib.hid (HI3.out.alloc (arr .u8 zn) 23);generalize w3.heap.size=g5 at HI4 ⊢; generalize w3.alloc (.cells (arr .u8 zn) 23)=w4 at HI4 ⊢))
 (try simp only [World.size_alloc,Act.put,sA,sZ,sS])
 refine wp_region_lin (fun (fF:Fill) (uF:World)=>(∀ v,fF 0=some v→v = .slice (some ⟨g5,0,none⟩) 32 32∧True)∧(∀ v,fF 1=some v→v = .slice (some ⟨g4,0,none⟩) 32 64∧True)∧(∀ v,fF 2=some v→v = .int .i64 ((32:Nat):Int)∧True)∧Blk w uF ([(w.heap.size,arr .u8 ks, 23),(w.heap.size+1,arr .u8 zn, 23),(g4,arr .u8 hs, 26),(g5,(if (fF 2).isSome=true then arr .u8 hx0 else arr .u8 zn), 23)])) (by kernel_rfl) (by kernel_rfl) ?zs3 ?ss3 ?es3
 case zs3=>exact ⟨fun _ h=>(by cases h),fun _ h=>(by cases h),fun _ h=>(by cases h),HI4.out.drew⟩
 case ss3 =>
  refine LinAll.cons (fun fF bF uF kF hJF hfF hcF hupF hsF hKF=>?_) ?_
  ·obtain ⟨j0,j1,j2,hB⟩:=hJF
   have e5:bF.eval (.tmp 5) = .pointer (some ⟨g5,0,none⟩):=hsF.old' 5 (by kernel_rfl) rfl
   exact lin_pure rfl (.slice (some ⟨g5,0,none⟩) 32 32) (by simp only [execOp,e5];first|rfl|(go_simp;done)) (hKF _ _ ⟨fun _ h=>⟨sI h,trivial⟩,j1,j2,hB⟩)
  refine LinAll.cons (fun fF bF uF kF hJF hfF hcF hupF hsF hKF=>?_) ?_
  ·obtain ⟨j0,j1,j2,hB⟩:=hJF
   have e4:bF.eval (.tmp 4) = .pointer (some ⟨g4,0,none⟩):=hsF.old' 4 (by kernel_rfl) rfl
   exact lin_pure rfl (.slice (some ⟨g4,0,none⟩) 32 64) (by simp only [execOp,e4];first|rfl|(go_simp;done)) (hKF _ _ ⟨j0,fun _ h=>⟨sI h,trivial⟩,j2,hB⟩)
  refine LinAll.cons (fun fF bF uF kF hJF hfF hcF hupF hsF hKF=>?_) ?_
  ·obtain ⟨j0,j1,j2,hB⟩:=hJF
   obtain ⟨e8,p8⟩:=hsF.at hupF 0 8 (by kernel_rfl) rfl j0
   obtain ⟨e9,p9⟩:=hsF.at hupF 1 9 (by kernel_rfl) rfl j1
   have hB':=hB
   rw [hfF] at hB'
   refine step_copy rfl (.tmp 8) (.tmp 9) rfl g5 0 32 32 64 ⟨g4,0,none⟩ zn hx0 23 e8 e9 (hB'.get 3 rfl) (HSR.out _ _ (hB'.get 2 rfl)) (by rw [HLzn.out];decide) ?_
   rw [copied HLzn.out H0L.out]
   intro w1 hb1 hk1
   have hB1:Blk w w1 ([(w.heap.size,arr .u8 ks, 23),(w.heap.size+1,arr .u8 zn, 23),(g4,arr .u8 hs, 26),(g5,(if ((some (.int .i64 ((32:Nat):Int)):Option Value)).isSome=true then arr .u8 hx0 else arr .u8 zn), 23)]):=hB'.put 3 rfl hk1 hb1
   exact hKF _ _ ⟨j0,j1,fun _ h=>⟨sI h,trivial⟩,hB1⟩
  exact LinAll.nil
 case es3 =>
 intro fF us3 hall hJF
 obtain ⟨j0,j1,j2,hB⟩:=hJF
 obtain ⟨v0,h0⟩:=sE (hall 0 (by decide))
 obtain ⟨rfl,p0⟩:=j0 _ h0
 obtain ⟨v1,h1⟩:=sE (hall 1 (by decide))
 obtain ⟨rfl,p1⟩:=j1 _ h1
 obtain ⟨v2,h2⟩:=sE (hall 2 (by decide))
 obtain ⟨rfl,p2⟩:=j2 _ h2
 rw [h2] at hB
 have HBs3:Hid (Blk w us3 [(w.heap.size,arr .u8 ks, 23),(w.heap.size+1,arr .u8 zn, 23),(g4,arr .u8 hs, 26),(g5,arr .u8 hx0, 23)]):=Lib.hid hB
 simp only [laid,Nat.zero_add,Nat.reduceAdd,h0,h1,h2,Act.put,sA,sZ,sS]
 clear j0 j1 j2 hB h0 h1 h2 hall fF HI4
 clear p0 p1 p2
 (try simp only [Exit.then])
 go_upto_region 4 with fail
 (try simp only [World.size_alloc,Act.put,sA,sZ,sS])
 refine wp_region_held_drew (S:=fun _=>True) (by kernel_rfl) trivial (fun hHeld=>?_)
 have HBd:=Lib.hid (HBs3.out.drew)
 generalize us3.drew=wd at HBd ⊢
 refine wpAnyH_take (i:=2) (oi:=(⟨some 13,_,_,_,_,none⟩:Oper)) (v := .slice (some ⟨g4,32,none⟩) 32 32) rfl (by kernel_rfl) (by kernel_rfl) (by kernel_rfl) (fun _ _ _ h=>h) (Or.inl ⟨by rfl,?hy5301⟩) trivial ?rest5301
 case hy5301=>(intro w _;(try dsimp only);go_simp;try (with_reducible rfl))
 (try simp only [Act.put,sA,sZ,sS])
 refine wpAnyH_ready (rs:=[0]) (by kernel_rfl) (by simp) ?_
 refine AllReadyH.cons (o:=(⟨some 11,_,_,_,_,none⟩:Oper)) rfl (fun K hK=>?_) AllReadyH.nil
 refine step_load_part rfl 23 _ rfl g5 0 (arr .u8 hx0) 23 (0,0) _ (HBd.out.get 3 rfl) rfl .u8 hx0 (arr_part _ _) Tryd.underlying23 rfl (num_i H0L.out) ?_
 refine hK.out _ _ trivial (fun _=>?_)
 clear hK K
 (try simp only [Act.put,sA,sZ,sS])
 refine wpAnyH_ready (rs:=[1]) (by kernel_rfl) (by simp) ?_
 refine AllReadyH.cons (o:=(⟨some 12,_,_,_,_,none⟩:Oper)) rfl (fun K hK=>?_) AllReadyH.nil
 go_simp
 go_at_call 95
 refine (HCL.out _).mono ?_
 rintro e w5 ⟨rfl,hb5⟩
 have HB5:=Lib.hid (HBd.out.kept hb5)
 clear hb5
 (try dsimp only)
 refine hK.out _ _ trivial (fun _=>?_)
 clear hK K
 (try simp only [Act.put,sA,sZ,sS])
 refine wpAnyH_ready (rs:=[3]) (by kernel_rfl) (by simp) ?_
 refine AllReadyH.cons (o:=(⟨some 14,_,_,_,_,none⟩:Oper)) rfl (fun K hK=>?_) AllReadyH.nil
 refine step_app8 rfl (.const (.slice none 0 0)) (.tmp 13) rfl w5.heap.size _ [] rfl (Own8.nil _ _) _ 32 32 hx1 rfl (HS1.out _ _ (HB5.out.get 2 rfl)) (by decide) (Nat.le_refl _) ?_
 rw [List.nil_append]
 intro vf w6 hown hgr _ _
 have hb6:Below w5.heap.size w5 w6:=app8_below (Own8.nil w5 w5.heap.size) hgr (Below.refl _ _) (Nat.le_refl _)
 obtain ⟨-, ho⟩:=hown
 rcases ho with ⟨-, h0'⟩|⟨gf,cap,cur,rfl,hBg,hgf,hn,hm,hsz,ht⟩
 ·exact absurd h0' (by rw [H1L.out];decide)
 rw [H1L.out] at hn ht
 have HBf:=Lib.hid (Sl.Blk.add HB5.out hb6 hgf hBg)
 have HC:=Lib.hid hn
 have HT':=Lib.hid ht
 rw [H1L.out]
 clear hgr hb6 hBg hgf hn hm hsz ht
 refine hK.out _ _ trivial (fun _=>?_)
 clear hK K
 (try simp only [Act.put,sA,sZ,sS])
 refine wpAnyH_ready (rs:=[4]) (by kernel_rfl) (by simp) ?_
 refine AllReadyH.cons (o:=(⟨none,_,_,_,_,none⟩:Oper)) rfl (fun K hK=>?_) AllReadyH.nil
 refine step_store_whole rfl 23 (.tmp 2) (.tmp 12) rfl (w.heap.size+1) _ _ 23 (HBf.out.get 1 rfl) rfl rfl (arr_len2 _ _ HSPL.out HLzn.out) (num_s HSPL.out) (all_arr _ _) ?_
 intro w7 hb7 hk7 hz7
 have HB7:=Lib.hid (HBf.out.put 1 rfl hk7 hb7)
 clear hb7 hk7 hz7
 refine hK.out _ _ trivial (fun _=>?_)
 clear hK K
 (try simp only [Act.put,sA,sZ,sS])
 refine wpAnyH_take (i:=5) (oi:=(⟨some 3,_,_,_,_,none⟩:Oper)) (v := .slice (some ⟨gf,0,none⟩) 32 cap) rfl (by kernel_rfl) (by kernel_rfl) (by kernel_rfl) (fun _ _ _ h=>h) (Or.inl ⟨by rfl,?hy5302⟩) trivial ?rest5302
 case hy5302=>(intro w _;(try dsimp only);first|rfl|kernel_rfl)
 (try simp only [Act.put,sA,sZ,sS])
 refine wpAnyH_done (by kernel_rfl) ?_ _
 (try simp only [Exit.then])
 go_wp2_with fail
 refine bodyPost_ret (results_cell_tmp_row rfl _ _ (w.heap.size+1) 23 _ (0,0) _ _ rfl (HB7.out.get 1 rfl) Tryd.underlying23 rfl (num_s HSPL.out) rfl) rfl ?_
 exact ⟨gf,cap,cur,rfl,⟨HB7.out.get 4 rfl,HB7.out.low 4 rfl,HC.out,by rw [HT'.out]⟩,HB7.out.below⟩
theorem rpublic_any (seed:Nat) (w:World) (hTd:TabD w) (hTX:TabX w) (hTY:TabY w) (hTK:Hb.TabK w) :
  Calls Tryd.prog 27 #[.agg (arr .u8 (n32 seed))] w fun e w'=>e = .returned (.agg (arr .u8 (n32 (epub seed))))∧Below w.heap.size w w':=by
 have hpa:=fun (u:World) (h:Hb.TabK u)=>rparts_any seed u h
 have hmany:=fun (ps:List Int) (P:Pt) (u:World) (h1:PtEl ps P) (h2:TabD u)=>many_any ps P (spart seed) u h1 h2
 have hw1:=fun (ps:List Int) (u:World) (h:PtEl ps (emul base (spart seed) 256))=>written_any ps _ u h
 rw [show ebytes (emul base (spart seed) 256)=epub seed from rfl] at hw1
 obtain ⟨l1,hl1⟩:∃ x,x=n32 (epub seed):=⟨_,rfl⟩
 rw [show nar (dig 256 32 (epub seed))=n32 (epub seed) from rfl,← hl1] at hw1
 rw [← hl1]
 have HL1:Hid (l1.length=32):=Lib.hid (by rw [hl1];exact n32_len _)
 rw [show nar (dig 256 32 (spart seed))=n32 (spart seed) from rfl] at hmany
 obtain ⟨SP,hSP⟩:∃ x,x=spart seed:=⟨_,rfl⟩
 rw [← hSP] at hpa hmany hw1
 obtain ⟨sp,hsp⟩:∃ x,x=n32 SP:=⟨_,rfl⟩
 rw [← hsp] at hpa hmany
 have HSPL:Hid (sp.length=32):=Lib.hid (by rw [hsp];exact n32_len _)
 obtain ⟨sr,hsr⟩:∃ x,x=srest seed:=⟨_,rfl⟩
 rw [← hsr] at hpa
 obtain ⟨ks,hks⟩:∃ x,x=n32 seed:=⟨_,rfl⟩
 rw [← hks] at hpa ⊢
 have HKL:Hid (ks.length=32):=Lib.hid (by rw [hks];exact n32_len _)
 have HPA:=Lib.hid hpa
 have HMANY:=Lib.hid hmany
 have HW1:=Lib.hid hw1
 have HTD:=Lib.hid hTd
 have HTX:=Lib.hid hTX
 have HTY:=Lib.hid hTY
 have HTK:=Lib.hid hTK
 obtain ⟨zn,hzn⟩:∃ zs:List Int,zs=List.replicate 32 0:=⟨_,rfl⟩
 have HZzn:Hid (∀ w,(zeroValue 23).run Tryd.prog w = .ok (.agg (arr .u8 zn)) w):=Lib.hid (by intro w;rw [hzn];exact zero_num w)
 have HLzn:Hid (zn.length=32):=Lib.hid (by rw [hzn];rfl)
 have HI0:=Lib.hid (Blk.two w (arr .u8 ks) (arr .u8 zn) 23 23)
 clear hzn hpa hmany hw1 hl1 hSP hsp hsr hks hTd hTX hTY hTK
 go_enter Tryd.func27, Tryd.ntmps27
 go_upto_region 1 with (first|((with_reducible refine aS 2 ?_);refine wpList_alloc_row rfl 23 rfl _ (HZzn.out _) ?_))
 (try simp only [World.size_alloc,Act.put,sA,sZ,sS])
 generalize ((w.alloc (.cells (arr .u8 ks) 23)).alloc (.cells (arr .u8 zn) 23))=wb at HI0 ⊢
 go_upto_region 2 with (first|((with_reducible refine aS 6 ?_);refine wpList_load_part rfl 23 _ rfl (w.heap.size) 0 _ 23 (0,0) _ (HI0.out.get 0 rfl) rfl .u8 ks (arr_part _ _) Tryd.underlying23 rfl (num_i HKL.out) ?_)|((with_reducible show Calls _ 60 _ _ _);go_at_call 60; refine (HPA.out _ (tabk_below HTK.out HI0.out.below)).mono ?_;rintro e w1 ⟨gp,cp,cup,rfl,⟨h2,h3,h4,h5⟩,hb1⟩;have HI1:=Lib.hid (Sl.Blk.add HI0.out hb1 h2 h3);have HCP:=Lib.hid h4;have HCU:=Lib.hid h5;clear hb1 h2 h3 h4 h5)|((with_reducible refine aS 3 ?_);refine wpList_alloc_row rfl 23 rfl _ (HZzn.out _) ?_;have HI2:=Lib.hid (HI1.out.alloc (arr .u8 zn) 23);generalize w1.heap.size=g3 at HI2 ⊢; generalize w1.alloc (.cells (arr .u8 zn) 23)=w2 at HI2 ⊢)|((with_reducible refine aT 3 ?_);refine wpList_store_whole rfl 23 _ _ rfl (g3) _ _ 23 (HI2.out.get 3 rfl) rfl rfl (arr_len2 _ _ HSPL.out HLzn.out) (num_s HSPL.out) (all_arr _ _) ?_;intro w3 hb3 hk3 hz3;have HI3:=Lib.hid (HI2.out.put 3 rfl hk3 hb3);clear hb3 hk3 hz3))
 (try simp only [World.size_alloc,Act.put,sA,sZ,sS])
 have HK0:=Lib.hid ((Kept.refl (fun x=>x=w.heap.size+1) w3).drew)
 have HBd:=Lib.hid (HI3.out.drew)
 refine wp_region_held_drew (S:=(fun w'=>Kept (fun x=>x=w.heap.size+1) w3 w')) (by kernel_rfl) (HK0.out) (fun hHeld=>?_)
 generalize w3.drew=wd at HK0 HBd hHeld ⊢
 refine' wpAnyH_take (i:=1) (oi:=(⟨some 11,_,_,_,_,none⟩:Oper)) (v:=_) rfl (by kernel_rfl) (by kernel_rfl) (by kernel_rfl) (fun _ _ _ h=>h) (yieldsIf_load_mid (by rfl) _ _ rfl _ _ rfl (sp.map (Value.int .u8)) _ ?hS5301 Tryd.underlying23 rfl (by rw [List.length_map];exact num_i HSPL.out)) (by assumption) ?rest5301
 case hS5301=>(intro w hSw;(try dsimp only at hSw);exact range_part (hSw.blk (HI3.out.get 3 rfl) (HI3.out.ne 3 1 rfl rfl (by decide))) 0 _ (by rw [List.length_map];exact arr_part _ _))
 (try simp only [Act.put,sA,sZ,sS])
 refine wpAnyH_ready (rs:=[0]) (by kernel_rfl) (by simp) ?_
 refine AllReadyH.cons (o:=(⟨some 10,_,_,_,_,none⟩:Oper)) rfl (fun K hK=>?_) AllReadyH.nil
 go_simp
 go_at_call 63
 refine (base_any _ (range_below HTX.out HBd.out.below) (range_below HTY.out HBd.out.below)).mono ?_
 rintro e w5302 ⟨z5302,rfl,h5302,hb5302⟩
 have HZ5302:=Lib.hid h5302
 have HL5302:=Lib.hid h5302.len
 clear h5302
 have HB5302:=Lib.hid (HBd.out.kept hb5302)
 have HK5302:=Lib.hid (HK0.out.trans (Kept.of_below hb5302))
 clear hb5302
 (try dsimp only)
 clear HBd
 clear HK0
 clear hHeld
 refine hK.out _ _ (HK5302.out) (fun hHeld=>?_)
 clear hK K
 (try simp only [Act.put,sA,sZ,sS])
 refine wpAnyH_ready (rs:=[2]) (by kernel_rfl) (by simp) ?_
 refine AllReadyH.cons (o:=(⟨some 12,_,_,_,_,none⟩:Oper)) rfl (fun K hK=>?_) AllReadyH.nil
 go_simp
 go_at_call 62
 refine (HMANY.out _ _ _ HZ5302.out (range_below HTD.out HB5302.out.below)).mono ?_
 rintro e w5303 ⟨z5303,rfl,h5303,hb5303⟩
 have HZ5303:=Lib.hid h5303
 have HL5303:=Lib.hid h5303.len
 clear h5303
 have HB5303:=Lib.hid (HB5302.out.kept hb5303)
 have HK5303:=Lib.hid (HK5302.out.trans (Kept.of_below hb5303))
 clear hb5303
 (try dsimp only)
 clear HB5302
 clear HK5302
 clear hHeld
 refine hK.out _ _ (HK5303.out) (fun hHeld=>?_)
 clear hK K
 (try simp only [Act.put,sA,sZ,sS])
 refine wpAnyH_ready (rs:=[3]) (by kernel_rfl) (by simp) ?_
 refine AllReadyH.cons (o:=(⟨some 13,_,_,_,_,none⟩:Oper)) rfl (fun K hK=>?_) AllReadyH.nil
 go_simp
 go_at_call 61
 refine (HW1.out _ _ HZ5303.out).mono ?_
 rintro e w5304 ⟨rfl,hb5304⟩
 have HB5304:=Lib.hid (HB5303.out.kept hb5304)
 have HK5304:=Lib.hid (HK5303.out.trans (Kept.of_below hb5304))
 clear hb5304
 (try dsimp only)
 clear HB5303
 clear HK5303
 clear hHeld
 refine hK.out _ _ (HK5304.out) (fun hHeld=>?_)
 clear hK K
 (try simp only [Act.put,sA,sZ,sS])
 refine wpAnyH_ready (rs:=[4]) (by kernel_rfl) (by simp) ?_
 refine AllReadyH.cons (o:=(⟨none,_,_,_,_,none⟩:Oper)) rfl (fun K hK=>?_) AllReadyH.nil
 refine step_store_whole rfl 23 (.tmp 2) (.tmp 13) rfl (w.heap.size+1) _ _ _ (HB5304.out.get 1 rfl) rfl rfl (arr_len2 _ _ HL1.out HLzn.out) (num_s HL1.out) (all_arr _ _) ?_
 intro w5305 hb5305 hk5305 hz5305
 have HB5305:=Lib.hid (HB5304.out.put 1 rfl hk5305 hb5305)
 have HK5305:=Lib.hid (HK5304.out.trans hk5305)
 clear hb5305 hk5305 hz5305
 clear HB5304
 clear HK5304
 clear hHeld
 refine hK.out _ _ (HK5305.out) (fun hHeld=>?_)
 clear hK K
 (try simp only [Act.put])
 refine wpAnyH_done (by kernel_rfl) ?_ _
 go_wp2_with fail
 (try simp only [Exit.then])
 refine bodyPost_ret (results_cell_row rfl _ _ (w.heap.size+1) 23 _ (0,0) _ rfl (HB5305.out.get 1 rfl) Tryd.underlying23 rfl (num_s HL1.out)) rfl ?_
 exact ⟨rfl,HB5305.out.below⟩
end Go.Proofs.YtodnkallpfkdiaaDoor.Rd
