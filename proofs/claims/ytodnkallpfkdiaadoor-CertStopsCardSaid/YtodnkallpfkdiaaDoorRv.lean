/- The document's Less: what they answer. Condition: 32 bytes; lists of the call's size; the tables hold what their text lays. The document's Verify: what it answers. Condition: 32 bytes, 64 bytes; a text of the call's size; the tables hold what their text lays. -/
import Derived.Test.YtodnkallpfkdiaaDoorRg
import Derived.Test.YtodnkallpfkdiaaDoorRm
import Derived.Test.YtodnkallpfkdiaaDoorRw
import Derived.Test.YtodnkallpfkdiaaDoorCc
set_option maxRecDepth 100000
set_option maxHeartbeats 16000000
set_option linter.unusedSimpArgs false
set_option linter.unusedVariables false
namespace Go.Proofs.YtodnkallpfkdiaaDoor.Rd
open Go.RowKit Lm Fp Cu Sc
theorem div_next (a i:Nat):a / 256 ^ i=256 * (a / 256 ^ (i+1))+a / 256 ^ i % 256:=by
 rw [Nat.pow_succ,← Nat.div_div_eq_div_mul]
 omega
theorem lt_of_div {a b i:Nat} (h:a / 256 ^ i < b / 256 ^ i):a < b:=by
 apply Classical.byContradiction
 intro hn
 exact absurd (Nat.div_le_div_right (c:=256 ^ i) (Nat.not_lt.1 hn)) (by omega)
theorem less_digit (a b i:Nat) (he:a / 256 ^ (i+1)=b / 256 ^ (i+1)) (hne:a / 256 ^ i % 256≠b / 256 ^ i % 256):decide (a / 256 ^ i % 256 < b / 256 ^ i % 256)=decide (a < b):=by
 have h1:=div_next a i
 have h2:=div_next b i
 by_cases h:a / 256 ^ i % 256 < b / 256 ^ i % 256
 ·rw [decide_eq_true h,decide_eq_true (lt_of_div (i:=i) (by omega))]
 ·rw [decide_eq_false h,decide_eq_false]
  have:b < a:=lt_of_div (i:=i) (by omega)
  omega
theorem rless_any (a:Nat) (w:World) (ha:a < 256 ^ 32) (hT:TabQ w):Calls Tryd.prog 102 #[.agg (arr .u8 (nar (dig 256 32 a)))] w fun e w'=>e = .returned (.bool (decide (a < q)))∧Below w.heap.size w w':=by
 obtain ⟨ks,hks⟩:∃ x,x=nar (dig 256 32 a):=⟨_,rfl⟩
 have hkl:ks.length=32:=by rw [hks,nar_len,dig_len]
 have hkg:∀ i,i < 32→ks.getD i 0=((a / 256 ^ i % 256:Nat):Int):=fun i hi=>by rw [hks,nar_get,dig_get _ _ _ _ hi]
 have hqg:∀ i,i < 32→qL.getD i 0=((q / 256 ^ i % 256:Nat):Int):=fun i hi=>by rw [qL_eq,nar_get,dig_get _ _ _ _ hi]
 have h0:a / 256 ^ 32=q / 256 ^ 32:=by rw [Nat.div_eq_of_lt ha,Nat.div_eq_of_lt q_lt32]
 rw [← hks]
 obtain ⟨Q,hQ⟩:∃ x,x=q:=⟨_,rfl⟩
 rw [← hQ] at hqg h0 ⊢
 have HKL:=Lib.hid hkl
 have HKG:=Lib.hid hkg
 have HQG:=Lib.hid hqg
 have HT:=Lib.hid hT
 have HS0:=Lib.hid (Blk.one w (arr .u8 ks) 23)
 have H0:=Lib.hid h0
 clear hks hkl hkg hqg h0 hT hQ ha
 go_enter Tryd.func102, Tryd.ntmps102
 go_wp2_with fail
 go_loopw [3] (fun v' wr=>∃ n:Nat,n≤32∧v' = .int .i64 (31 - (n:Int))∧Hid (a / 256 ^ (32 - n)=Q / 256 ^ (32 - n))∧Blk w wr [(w.heap.size,arr .u8 ks, 23)]) (fun v' _=>(intOf v'+1).toNat)
 case atStart=>exact ⟨0,Nat.zero_le _,rfl,H0,HS0.out⟩
 case round =>
 obtain ⟨n,hn,rfl,hd,hB⟩:=hrel
 have HB:=Lib.hid hB
 by_cases hlt:n < 32
 ·obtain ⟨i,hi⟩:∃ i:Nat,i+n=31:=⟨31 - n,by omega⟩
  have hz:(31:Int) - (n:Int)=(i:Int):=by omega
  have hi2:i < 32:=by omega
  have hd2:=hd.out
  rw [show 32 - n=i+1 by omega] at hd2
  have HD:=Lib.hid hd2
  rw [hz]
  have q0:=arr_get' (hB.get 0 rfl) i (by rw [HKL.out];exact hi2)
  rw [HKG.out i hi2] at q0
  have q1:=(HT.out.below HB.out.below) i hi2
  rw [HQG.out i hi2] at q1
  have HI:=Lib.hid hi
  have HLD:=Lib.hid (less_digit a Q i hd2)
  have HE:=Lib.hid (show a / 256 ^ i % 256=Q / 256 ^ i % 256→a / 256 ^ i=Q / 256 ^ i from fun h=>by rw [div_next a i,div_next Q i,hd2,h])
  clear hd hd2 hz hi
  have hx9:a / 256 ^ i % 256 < 256:=Nat.mod_lt _ (by decide)
  generalize a / 256 ^ i % 256=x at q0 HLD HE hx9
  generalize Q / 256 ^ i % 256=y at q1 HLD HE
  have hwx:wrap64 (x:Int)=(x:Int):=by unfold wrap64;omega
  clear hx9
  have q9:0≤(i:Int):=by omega
  by_cases hxy:x=y
  ·subst hxy
   go_upto_region 4 with fail
   go_region
   go_wp2_with fail
   go_roundw
   case rel=>exact ⟨n+1,by omega,by have e:=HI.out;congr 1;omega,by rw [show 32 - (n+1)=i by have e:=HI.out;omega];exact Lib.hid (HE.out rfl),HB.out.drew⟩
   case measure=>simp [intOf]
  ·have hne:((x:Int) != (y:Int))=true:=by rw [bne_iff_ne];omega
   have HRES:=Lib.hid (HLD.out hxy)
   go_upto_region 4 with fail
   go_region
   go_upto_region 5 with fail
   go_region
   go_wp2_with fail
   (try simp only [Exit.inBlock,Exit.then])
   go_ret
   exact ⟨by rw [← HRES.out];rfl,HB.out.drew.drew.below⟩
 ·obtain rfl:n=32:=by omega
  have hz:(31:Int) - ((32:Nat):Int) = -1:=by omega
  rw [hz]
  have hd2:=hd.out
  rw [show 32 - 32=0 from rfl,Nat.pow_zero,Nat.div_one,Nat.div_one] at hd2
  clear hz hd
  have hres:decide (a < Q)=false:=by rw [hd2];simp
  have HRES:=Lib.hid hres
  clear hres hd2
  go_wp2_with fail
  (try simp only [Exit.inBlock,Exit.then])
  go_ret
  exact ⟨by rw [HRES.out];rfl,HB.out.below⟩
end Go.Proofs.YtodnkallpfkdiaaDoor.Rd
namespace Go.Proofs.YtodnkallpfkdiaaDoor.Rd
open Go.RowKit Lm Fp Cu Sc
theorem rverify_any {gs bs:List Int} (key:Nat) (sb:Option Addr) (nb cb:Nat) (w:World) (hkey:key < 2 ^ 256) (hg:gs.length=64) (hgb:bytes gs) (hB:Src w sb nb bs) (hcb:nb≤cb) (bB:bytes bs) (hN:nb≤1000000000)
  (hTd:TabD w) (hTi:TabI w) (hTX:TabX w) (hTY:TabY w) (hTQ:TabQ w) (hTK:Hb.TabK w) :
  Calls Tryd.prog 64 #[.agg (arr .u8 (n32 key)), .agg (arr .u8 gs), .slice sb nb cb] w fun e w'=>e = .returned (.bool (everify key (hnum (gs.take 32)) (hnum (gs.drop 32)) bs))∧Below w.heap.size w w':=by
 have p256:(256:Nat) ^ 32=2 ^ 256:=by decide
 have hr0:gs.take 32=n32 (hnum (gs.take 32)):=(n32_hnum (bytes_take hgb 32) (by rw [List.length_take,hg];rfl)).symm
 have hr1:hnum (gs.take 32) < 2 ^ 256:=by rw [← p256];have:=hnum_lt (bytes_take hgb 32);rwa [List.length_take,hg] at this
 have hs0:gs.drop 32=n32 (hnum (gs.drop 32)):=(n32_hnum (bytes_drop hgb 32) (by rw [List.length_drop,hg])).symm
 have hs1:hnum (gs.drop 32) < 2 ^ 256:=by rw [← p256];have:=hnum_lt (bytes_drop hgb 32);rwa [List.length_drop,hg] at this
 have hsr:=fun (u:World) (g:Nat) (h:u.heap[g]? = some (.cells (arr .u8 gs) 26 (0,0)))=>Sl.src_off h 0 32 (by rw [hg];decide)
 have hss:=fun (u:World) (g:Nat) (h:u.heap[g]? = some (.cells (arr .u8 gs) 26 (0,0)))=>Sl.src_off h 32 32 (by rw [hg];decide)
 rw [List.drop_zero] at hsr
 rw [List.take_of_length_le (show (gs.drop 32).length≤32 by rw [List.length_drop,hg];decide)] at hss
 obtain ⟨RN,hRN⟩:∃ x,x=hnum (gs.take 32):=⟨_,rfl⟩
 obtain ⟨SN,hSN⟩:∃ x,x=hnum (gs.drop 32):=⟨_,rfl⟩
 rw [← hRN] at hr0 hr1 ⊢
 rw [← hSN] at hs0 hs1 ⊢
 rw [hr0] at hsr
 rw [hs0] at hss
 have hsum:∀ (g:Nat) (u:World),SrcL u (some ⟨g,0,none⟩) 3 [n32 RN,n32 key,bs]→Hb.TabK u→TabQ u→Calls Tryd.prog 89 #[.slice (some ⟨g,0,none⟩) 3 3] u fun e w'=>e = .returned (.agg (arr .u8 (n32 (wide (n32 RN ++ (n32 key ++ bs))))))∧Below u.heap.size u w':=by
  intro g u h1 h2 h3
  have:=wide_any (some ⟨g,0,none⟩) 3 3 [n32 RN,n32 key,bs] u h1 (by intro l h;simp only [List.mem_cons,List.not_mem_nil,or_false] at h;rcases h with rfl|rfl|rfl;exact n32_bytes _;exact n32_bytes _;exact bB) (by rw [show ([n32 RN,n32 key,bs]:List (List Int)).flatten=n32 RN ++ (n32 key ++ bs) by simp,List.length_append,List.length_append,n32_len,n32_len,hB.len];omega) (by decide) h2 h3
  rwa [show ([n32 RN,n32 key,bs]:List (List Int)).flatten=n32 RN ++ (n32 key ++ bs) by simp] at this
 have hev:everify key RN SN bs=match eread RN,eread key with
  | some r,some a=>decide (SN < q) && (ebytes (emul base SN 256) == ebytes (eadd r (emul a (wide (n32 RN ++ (n32 key ++ bs))) 256)))
  | _,_=>false:=rfl
 obtain ⟨KK,hKK⟩:∃ k,k=wide (n32 RN ++ (n32 key ++ bs)):=⟨_,rfl⟩
 rw [← hKK] at hev hsum
 have hread1:=fun (u:World) (h1:TabD u) (h2:TabI u)=>read_any RN u hr1 h1 h2
 have hread2:=fun (u:World) (h1:TabD u) (h2:TabI u)=>read_any key u hkey h1 h2
 have hless:=fun (u:World) (h:TabQ u)=>rless_any SN u (by rw [p256];exact hs1) h
 have hmany:=fun (ps:List Int) (P:Pt) (u:World) (h1:PtEl ps P) (h2:TabD u)=>many_any ps P SN u h1 h2
 have hmany2:=fun (ps:List Int) (P:Pt) (u:World) (h1:PtEl ps P) (h2:TabD u)=>many_any ps P KK u h1 h2
 rw [show nar (dig 256 32 RN)=n32 RN from rfl] at hread1
 rw [show nar (dig 256 32 key)=n32 key from rfl] at hread2
 rw [show nar (dig 256 32 SN)=n32 SN from rfl] at hless hmany
 rw [show nar (dig 256 32 KK)=n32 KK from rfl] at hmany2
 obtain ⟨er,her⟩:∃ x,x=eread RN:=⟨_,rfl⟩
 obtain ⟨ea,hea⟩:∃ x,x=eread key:=⟨_,rfl⟩
 rw [← her] at hev hread1
 rw [← hea] at hev hread2
 obtain ⟨ev,hevv⟩:∃ x,x=everify key RN SN bs:=⟨_,rfl⟩
 rw [← hevv] at hev ⊢
 obtain ⟨rb,hrb⟩:∃ x,x=er.isSome:=⟨_,rfl⟩
 obtain ⟨ab,hab⟩:∃ x,x=ea.isSome:=⟨_,rfl⟩
 rw [← hrb] at hread1
 rw [← hab] at hread2
 obtain ⟨lb,hlb⟩:∃ x,x=decide (SN < q):=⟨_,rfl⟩
 rw [← hlb] at hev hless
 obtain ⟨ks,hks⟩:∃ x,x=n32 key:=⟨_,rfl⟩
 obtain ⟨rg0,hrg0⟩:∃ x,x=n32 RN:=⟨_,rfl⟩
 obtain ⟨sg0,hsg0⟩:∃ x,x=n32 SN:=⟨_,rfl⟩
 obtain ⟨kg0,hkg0⟩:∃ x,x=n32 KK:=⟨_,rfl⟩
 rw [← hks] at hsum hread2 ⊢
 rw [← hrg0] at hsum hread1 hsr
 rw [← hsg0] at hless hmany hss
 rw [← hkg0] at hsum hmany2
 have HKL:Hid (ks.length=32):=Lib.hid (by rw [hks];exact n32_len _)
 have HRGL:Hid (rg0.length=32):=Lib.hid (by rw [hrg0];exact n32_len _)
 have HSGL:Hid (sg0.length=32):=Lib.hid (by rw [hsg0];exact n32_len _)
 have HKGL:Hid (kg0.length=32):=Lib.hid (by rw [hkg0];exact n32_len _)
 have HEV:=Lib.hid hev
 have HRB:=Lib.hid hrb
 have HAB:=Lib.hid hab
 have HR1:=Lib.hid hread1
 have HR2:=Lib.hid hread2
 have HLESS:=Lib.hid hless
 have HMANY:=Lib.hid hmany
 have HMANY2:=Lib.hid hmany2
 have HSUM:=Lib.hid hsum
 have HSR:=Lib.hid hsr
 have HSS:=Lib.hid hss
 have HGL:=Lib.hid hg
 have HSB:=Lib.hid hB
 have HCB:=Lib.hid hcb
 have HTD:=Lib.hid hTd
 have HTI:=Lib.hid hTi
 have HTX:=Lib.hid hTX
 have HTY:=Lib.hid hTY
 have HTQ:=Lib.hid hTQ
 have HTK:=Lib.hid hTK
 obtain ⟨zn,hzn⟩:∃ zs:List Int,zs=List.replicate 32 0:=⟨_,rfl⟩
 have HZzn:Hid (∀ w,(zeroValue 23).run Tryd.prog w = .ok (.agg (arr .u8 zn)) w):=Lib.hid (by intro w;rw [hzn];exact zero_num w)
 have HLzn:Hid (zn.length=32):=Lib.hid (by rw [hzn];rfl)
 obtain ⟨zp,hzp⟩:∃ zs:List Int,zs=List.replicate 64 0:=⟨_,rfl⟩
 have HZzp:Hid (∀ w,(zeroValue 102).run Tryd.prog w = .ok (.agg (arr .i64 zp)) w):=Lib.hid (by intro w;rw [hzp];exact zero_pt w)
 have HLzp:Hid (zp.length=64):=Lib.hid (by rw [hzp];rfl)
 have HI0:=Lib.hid (Blk.two w (arr .u8 ks) (arr .u8 gs) 23 26)
 clear hzn hzp hg hgb hB hcb bB hN p256 hr0 hr1 hs0 hs1 hsr hss hRN hSN hsum hev hKK hread1 hread2 her hea hevv hrb hab hlb hless hmany hmany2 hks hrg0 hsg0 hkg0 hTd hTi hTX hTY hTQ hTK hkey
 go_enter Tryd.func64, Tryd.ntmps64
 go_upto_region 1 with fail
 (try simp only [World.size_alloc,Act.put,sA,sZ,sS])
 generalize ((w.alloc (.cells (arr .u8 ks) 23)).alloc (.cells (arr .u8 gs) 26))=wb at HI0 ⊢
 go_upto_region 3 with (first|((with_reducible refine aS 7 ?_);refine wpList_alloc_row rfl 23 rfl _ (HZzn.out _) ?_;have HI1:=Lib.hid (HI0.out.alloc (arr .u8 zn) 23);generalize wb.heap.size=g7 at HI1 ⊢; generalize wb.alloc (.cells (arr .u8 zn) 23)=w1 at HI1 ⊢)|((with_reducible refine aS 8 ?_);refine wpList_alloc_row rfl 23 rfl _ (HZzn.out _) ?_;have HI2:=Lib.hid (HI1.out.alloc (arr .u8 zn) 23);generalize w1.heap.size=g8 at HI2 ⊢; generalize w1.alloc (.cells (arr .u8 zn) 23)=w2 at HI2 ⊢))
 (try simp only [World.size_alloc,Act.put,sA,sZ,sS])
 refine wp_region_lin (fun (fF:Fill) (uF:World)=>(∀ v,fF 0=some v→v = .slice (some ⟨g7,0,none⟩) 32 32∧True)∧(∀ v,fF 1=some v→v = .slice (some ⟨w.heap.size+1,0,none⟩) 32 64∧True)∧(∀ v,fF 2=some v→v = .int .i64 ((32:Nat):Int)∧True)∧Blk w uF ([(w.heap.size,arr .u8 ks, 23),(w.heap.size+1,arr .u8 gs, 26),(g7,(if (fF 2).isSome=true then arr .u8 rg0 else arr .u8 zn), 23),(g8,arr .u8 zn, 23)])) (by kernel_rfl) (by kernel_rfl) ?zv3 ?sv3 ?ev3
 case zv3=>exact ⟨fun _ h=>(by cases h),fun _ h=>(by cases h),fun _ h=>(by cases h),HI2.out.drew⟩
 case sv3 =>
  refine LinAll.cons (fun fF bF uF kF hJF hfF hcF hupF hsF hKF=>?_) ?_
  ·obtain ⟨j0,j1,j2,hB⟩:=hJF
   have e7:bF.eval (.tmp 7) = .pointer (some ⟨g7,0,none⟩):=hsF.old' 7 (by kernel_rfl) rfl
   exact lin_pure rfl (.slice (some ⟨g7,0,none⟩) 32 32) (by simp only [execOp,e7];first|rfl|(go_simp;done)) (hKF _ _ ⟨fun _ h=>⟨sI h,trivial⟩,j1,j2,hB⟩)
  refine LinAll.cons (fun fF bF uF kF hJF hfF hcF hupF hsF hKF=>?_) ?_
  ·obtain ⟨j0,j1,j2,hB⟩:=hJF
   have e4:bF.eval (.tmp 4) = .pointer (some ⟨w.heap.size+1,0,none⟩):=hsF.old' 4 (by kernel_rfl) rfl
   exact lin_pure rfl (.slice (some ⟨w.heap.size+1,0,none⟩) 32 64) (by simp only [execOp,e4];first|rfl|(go_simp;done)) (hKF _ _ ⟨j0,fun _ h=>⟨sI h,trivial⟩,j2,hB⟩)
  refine LinAll.cons (fun fF bF uF kF hJF hfF hcF hupF hsF hKF=>?_) ?_
  ·obtain ⟨j0,j1,j2,hB⟩:=hJF
   obtain ⟨e14,p14⟩:=hsF.at hupF 0 14 (by kernel_rfl) rfl j0
   obtain ⟨e15,p15⟩:=hsF.at hupF 1 15 (by kernel_rfl) rfl j1
   have hB':=hB
   rw [hfF] at hB'
   refine step_copy rfl (.tmp 14) (.tmp 15) rfl g7 0 32 32 64 ⟨w.heap.size+1,0,none⟩ zn rg0 23 e14 e15 (hB'.get 2 rfl) (HSR.out _ _ (hB'.get 1 rfl)) (by rw [HLzn.out];decide) ?_
   rw [copied HLzn.out HRGL.out]
   intro w1 hb1 hk1
   have hB1:Blk w w1 ([(w.heap.size,arr .u8 ks, 23),(w.heap.size+1,arr .u8 gs, 26),(g7,(if ((some (.int .i64 ((32:Nat):Int)):Option Value)).isSome=true then arr .u8 rg0 else arr .u8 zn), 23),(g8,arr .u8 zn, 23)]):=hB'.put 2 rfl hk1 hb1
   exact hKF _ _ ⟨j0,j1,fun _ h=>⟨sI h,trivial⟩,hB1⟩
  exact LinAll.nil
 case ev3 =>
 intro fF uv3 hall hJF
 obtain ⟨j0,j1,j2,hB⟩:=hJF
 obtain ⟨v0,h0⟩:=sE (hall 0 (by decide))
 obtain ⟨rfl,p0⟩:=j0 _ h0
 obtain ⟨v1,h1⟩:=sE (hall 1 (by decide))
 obtain ⟨rfl,p1⟩:=j1 _ h1
 obtain ⟨v2,h2⟩:=sE (hall 2 (by decide))
 obtain ⟨rfl,p2⟩:=j2 _ h2
 rw [h2] at hB
 have HBv3:Hid (Blk w uv3 [(w.heap.size,arr .u8 ks, 23),(w.heap.size+1,arr .u8 gs, 26),(g7,arr .u8 rg0, 23),(g8,arr .u8 zn, 23)]):=Lib.hid hB
 simp only [laid,Nat.zero_add,Nat.reduceAdd,h0,h1,h2,Act.put,sA,sZ,sS]
 clear j0 j1 j2 hB h0 h1 h2 hall fF HI2
 clear p0 p1 p2
 (try simp only [Exit.then])
 go_upto_region 4 with fail
 (try simp only [World.size_alloc,Act.put,sA,sZ,sS])
 refine wp_region_lin (fun (fF:Fill) (uF:World)=>(∀ v,fF 0=some v→v = .slice (some ⟨g8,0,none⟩) 32 32∧True)∧(∀ v,fF 1=some v→v = .slice (some ⟨w.heap.size+1,32,none⟩) 32 32∧True)∧(∀ v,fF 2=some v→v = .int .i64 ((32:Nat):Int)∧True)∧Blk w uF ([(w.heap.size,arr .u8 ks, 23),(w.heap.size+1,arr .u8 gs, 26),(g7,arr .u8 rg0, 23),(g8,(if (fF 2).isSome=true then arr .u8 sg0 else arr .u8 zn), 23)])) (by kernel_rfl) (by kernel_rfl) ?zv4 ?sv4 ?ev4
 case zv4=>exact ⟨fun _ h=>(by cases h),fun _ h=>(by cases h),fun _ h=>(by cases h),HBv3.out.drew⟩
 case sv4 =>
  refine LinAll.cons (fun fF bF uF kF hJF hfF hcF hupF hsF hKF=>?_) ?_
  ·obtain ⟨j0,j1,j2,hB⟩:=hJF
   have e8:bF.eval (.tmp 8) = .pointer (some ⟨g8,0,none⟩):=hsF.old' 8 (by kernel_rfl) rfl
   exact lin_pure rfl (.slice (some ⟨g8,0,none⟩) 32 32) (by simp only [execOp,e8];first|rfl|(go_simp;done)) (hKF _ _ ⟨fun _ h=>⟨sI h,trivial⟩,j1,j2,hB⟩)
  refine LinAll.cons (fun fF bF uF kF hJF hfF hcF hupF hsF hKF=>?_) ?_
  ·obtain ⟨j0,j1,j2,hB⟩:=hJF
   have e4:bF.eval (.tmp 4) = .pointer (some ⟨w.heap.size+1,0,none⟩):=hsF.old' 4 (by kernel_rfl) rfl
   exact lin_pure rfl (.slice (some ⟨w.heap.size+1,32,none⟩) 32 32) (by simp only [execOp,e4];first|rfl|(go_simp;done)) (hKF _ _ ⟨j0,fun _ h=>⟨sI h,trivial⟩,j2,hB⟩)
  refine LinAll.cons (fun fF bF uF kF hJF hfF hcF hupF hsF hKF=>?_) ?_
  ·obtain ⟨j0,j1,j2,hB⟩:=hJF
   obtain ⟨e17,p17⟩:=hsF.at hupF 0 17 (by kernel_rfl) rfl j0
   obtain ⟨e18,p18⟩:=hsF.at hupF 1 18 (by kernel_rfl) rfl j1
   have hB':=hB
   rw [hfF] at hB'
   refine step_copy rfl (.tmp 17) (.tmp 18) rfl g8 0 32 32 32 ⟨w.heap.size+1,32,none⟩ zn sg0 23 e17 e18 (hB'.get 3 rfl) (HSS.out _ _ (hB'.get 1 rfl)) (by rw [HLzn.out];decide) ?_
   rw [copied HLzn.out HSGL.out]
   intro w1 hb1 hk1
   have hB1:Blk w w1 ([(w.heap.size,arr .u8 ks, 23),(w.heap.size+1,arr .u8 gs, 26),(g7,arr .u8 rg0, 23),(g8,(if ((some (.int .i64 ((32:Nat):Int)):Option Value)).isSome=true then arr .u8 sg0 else arr .u8 zn), 23)]):=hB'.put 3 rfl hk1 hb1
   exact hKF _ _ ⟨j0,j1,fun _ h=>⟨sI h,trivial⟩,hB1⟩
  exact LinAll.nil
 case ev4 =>
 intro fF uv4 hall hJF
 obtain ⟨j0,j1,j2,hB⟩:=hJF
 obtain ⟨v0,h0⟩:=sE (hall 0 (by decide))
 obtain ⟨rfl,p0⟩:=j0 _ h0
 obtain ⟨v1,h1⟩:=sE (hall 1 (by decide))
 obtain ⟨rfl,p1⟩:=j1 _ h1
 obtain ⟨v2,h2⟩:=sE (hall 2 (by decide))
 obtain ⟨rfl,p2⟩:=j2 _ h2
 rw [h2] at hB
 have HBv4:Hid (Blk w uv4 [(w.heap.size,arr .u8 ks, 23),(w.heap.size+1,arr .u8 gs, 26),(g7,arr .u8 rg0, 23),(g8,arr .u8 sg0, 23)]):=Lib.hid hB
 simp only [laid,Nat.zero_add,Nat.reduceAdd,h0,h1,h2,Act.put,sA,sZ,sS]
 clear j0 j1 j2 hB h0 h1 h2 hall fF HBv3
 clear p0 p1 p2
 (try simp only [Exit.then])
 go_upto_region 6 with (first|((with_reducible refine aS 21 ?_);refine wpList_load_part rfl 23 _ rfl (w.heap.size) 0 _ 23 (0,0) _ (HBv4.out.get 0 rfl) rfl .u8 ks (arr_part _ _) Tryd.underlying23 rfl (num_i HKL.out) ?_)|((with_reducible show Calls _ 69 _ _ _);go_at_call 69; refine (HR2.out _ (range_below HTD.out HBv4.out.below) (range_below HTI.out HBv4.out.below)).mono ?_;rintro e w13 ⟨z13,rfl,h13,k13,hb13⟩;have HZ13:=Lib.hid k13;have HL13:=Lib.hid h13;have HI13:=Lib.hid (HBv4.out.kept hb13);clear h13 k13 hb13)|((with_reducible refine aS 9 ?_);refine wpList_alloc_row rfl 102 rfl _ (HZzp.out _) ?_;have HI14:=Lib.hid (HI13.out.alloc (arr .i64 zp) 102);generalize w13.heap.size=g9 at HI14 ⊢; generalize w13.alloc (.cells (arr .i64 zp) 102)=w14 at HI14 ⊢)|((with_reducible refine aT 9 ?_);refine wpList_store_whole rfl 102 _ _ rfl (g9) _ _ 102 (HI14.out.get 4 rfl) rfl rfl (arr_len2 _ _ HL13.out HLzp.out) (pt_s HL13.out) (all_arr _ _) ?_;intro w15 hb15 hk15 hz15;have HI15:=Lib.hid (HI14.out.put 4 rfl hk15 hb15);clear hb15 hk15 hz15))
 (try simp only [World.size_alloc,Act.put,sA,sZ,sS])
 go_upto_region 7 with (first|((with_reducible refine aS 26 ?_);refine wpList_load_part rfl 23 _ rfl (g7) 0 _ 23 (0,0) _ (HI15.out.get 2 rfl) rfl .u8 rg0 (arr_part _ _) Tryd.underlying23 rfl (num_i HRGL.out) ?_)|((with_reducible show Calls _ 69 _ _ _);go_at_call 69; refine (HR1.out _ (range_below HTD.out HI15.out.below) (range_below HTI.out HI15.out.below)).mono ?_;rintro e w16 ⟨z16,rfl,h16,k16,hb16⟩;have HZ16:=Lib.hid k16;have HL16:=Lib.hid h16;have HI16:=Lib.hid (HI15.out.kept hb16);clear h16 k16 hb16)|((with_reducible refine aS 11 ?_);refine wpList_alloc_row rfl 102 rfl _ (HZzp.out _) ?_;have HI17:=Lib.hid (HI16.out.alloc (arr .i64 zp) 102);generalize w16.heap.size=g11 at HI17 ⊢; generalize w16.alloc (.cells (arr .i64 zp) 102)=w17 at HI17 ⊢)|((with_reducible refine aT 11 ?_);refine wpList_store_whole rfl 102 _ _ rfl (g11) _ _ 102 (HI17.out.get 5 rfl) rfl rfl (arr_len2 _ _ HL16.out HLzp.out) (pt_s HL16.out) (all_arr _ _) ?_;intro w18 hb18 hk18 hz18;have HI18:=Lib.hid (HI17.out.put 5 rfl hk18 hb18);clear hb18 hk18 hz18))
 (try simp only [World.size_alloc,Act.put,sA,sZ,sS])
 cases ea with
 | none =>
  obtain rfl:ab=false:=HAB.out
  obtain rfl:ev=false:=by rw [HEV.out];cases er <;> rfl
  go_wp2_with fail
  (try simp only [Exit.then])
  go_ret
  exact ⟨rfl,HI18.out.below⟩
 | some pa =>
  obtain rfl:ab=true:=HAB.out
  cases er with
  | none =>
   obtain rfl:rb=false:=HRB.out
   obtain rfl:ev=false:=HEV.out
   go_wp2_with fail
   (try simp only [Exit.then])
   go_ret
   exact ⟨rfl,HI18.out.below⟩
  | some pr =>
   obtain rfl:rb=true:=HRB.out
   have HPR:=Lib.hid (HZ16.out pr rfl)
   have HPA:=Lib.hid (HZ13.out pa rfl)
   obtain ⟨E1,hE1⟩:∃ x,x=ebytes (emul base SN 256):=⟨_,rfl⟩
   obtain ⟨E2,hE2⟩:∃ x,x=ebytes (eadd pr (emul pa KK 256)):=⟨_,rfl⟩
   obtain ⟨eb,heb⟩:∃ b,b=decide (E1=E2):=⟨_,rfl⟩
   have hev2:ev=(lb && eb):=by rw [HEV.out,heb,hE1,hE2];rfl
   have hbe:=dig32_inj (show E1 < 256 ^ 32 by rw [hE1];exact ebytes_lt _) (show E2 < 256 ^ 32 by rw [hE2];exact ebytes_lt _)
   rw [← heb] at hbe
   have hw1:=fun (ps:List Int) (u:World) (h:PtEl ps (emul base SN 256))=>written_any ps _ u h
   have hw2:=fun (ps:List Int) (u:World) (h:PtEl ps (eadd pr (emul pa KK 256)))=>written_any ps _ u h
   rw [← hE1] at hw1
   rw [← hE2] at hw2
   obtain ⟨l1,hl1⟩:∃ x,x=nar (dig 256 32 E1):=⟨_,rfl⟩
   obtain ⟨l2,hl2⟩:∃ x,x=nar (dig 256 32 E2):=⟨_,rfl⟩
   rw [← hl1] at hw1 hbe
   rw [← hl2] at hw2 hbe
   have HL1:Hid (l1.length=32):=Lib.hid (by rw [hl1,nar_len,dig_len])
   have HL2:Hid (l2.length=32):=Lib.hid (by rw [hl2,nar_len,dig_len])
   have HBE:=Lib.hid hbe
   have HW1:=Lib.hid hw1
   have HW2:=Lib.hid hw2
   have HEV2:=Lib.hid hev2
   clear HEV HZ13 HZ16 HR1 HR2 HRB HAB heb hev2 hbe hw1 hw2 hl1 hl2 hE1 hE2
   rcases Bool.eq_false_or_eq_true lb with hl|hl
   rotate_left
   ·subst hl
    obtain rfl:ev=false:=HEV2.out
    go_wp2_with (first|((with_reducible refine aS 37 ?_);refine wpList_load_wanted (by rfl) 23 _ rfl (g8) (0) _ 23 (0,0) _ (HI18.out.get 3 rfl) rfl .u8 sg0 (arr_part _ _) Tryd.underlying23 rfl (num_i HSGL.out) ?_)|((with_reducible show Calls _ 102 _ _ _);go_at_call 102; refine (HLESS.out _ (HTQ.out.below HI18.out.below)).mono ?_;rintro e w19 ⟨rfl,hb19⟩;have HI19:=Lib.hid (HI18.out.kept hb19);clear hb19))
    (try simp only [Exit.then])
    go_ret
    exact ⟨rfl,HI19.out.below⟩
   ·subst hl
    obtain rfl:ev=eb:=HEV2.out
    go_upto_region 9 with (first|((with_reducible refine aS 37 ?_);refine wpList_load_wanted (by rfl) 23 _ rfl (g8) (0) _ 23 (0,0) _ (HI18.out.get 3 rfl) rfl .u8 sg0 (arr_part _ _) Tryd.underlying23 rfl (num_i HSGL.out) ?_)|((with_reducible show Calls _ 102 _ _ _);go_at_call 102; refine (HLESS.out _ (HTQ.out.below HI18.out.below)).mono ?_;rintro e w19 ⟨rfl,hb19⟩;have HI19:=Lib.hid (HI18.out.kept hb19);clear hb19))
    (try simp only [World.size_alloc,Act.put,sA,sZ,sS])
    refine wp_region_lin (fun (fF:Fill) (uF:World)=>(∀ v,fF 0=some v→v = .slice (some ⟨g7,0,none⟩) 32 32∧True)∧(∀ v,fF 1=some v→v = .slice (some ⟨w.heap.size,0,none⟩) 32 32∧True)∧(∀ v,fF 2=some v→v = .slice sb nb cb∧True)∧(∀ v,fF 3=some v→∃ g:Nat,v = .slice (some ⟨g,0,none⟩) 3 3)∧(∀ v,fF 4=some v→v = .agg (arr .u8 kg0)∧True)∧(∀ v,fF 5=some v→∃ g:Nat,v = .pointer (some ⟨g,0,none⟩))∧Blk w uF ([(w.heap.size,arr .u8 ks, 23),(w.heap.size+1,arr .u8 gs, 26),(g7,arr .u8 rg0, 23),(g8,arr .u8 sg0, 23),(g9,arr .i64 z13, 102),(g11,arr .i64 z16, 102)] ++ (ent (fF 3) (#[.slice (some ⟨g7,0,none⟩) 32 32, .slice (some ⟨w.heap.size,0,none⟩) 32 32, .slice sb nb cb]) 24 ++ (ent (fF 5) ((if (fF 6).isSome=true then arr .u8 kg0 else arr .u8 zn)) 23)))) (by kernel_rfl) (by kernel_rfl) ?zv9 ?sv9 ?ev9
    case zv9=>exact ⟨fun _ h=>(by cases h),fun _ h=>(by cases h),fun _ h=>(by cases h),fun _ h=>(by cases h),fun _ h=>(by cases h),fun _ h=>(by cases h),HI19.out.drew⟩
    case sv9 =>
     refine LinAll.cons (fun fF bF uF kF hJF hfF hcF hupF hsF hKF=>?_) ?_
     ·obtain ⟨j0,j1,j2,j3,j4,j5,hB⟩:=hJF
      have e7:bF.eval (.tmp 7) = .pointer (some ⟨g7,0,none⟩):=hsF.old' 7 (by kernel_rfl) rfl
      exact lin_pure rfl (.slice (some ⟨g7,0,none⟩) 32 32) (by simp only [execOp,e7];first|rfl|(go_simp;done)) (hKF _ _ ⟨fun _ h=>⟨sI h,trivial⟩,j1,j2,j3,j4,j5,hB⟩)
     refine LinAll.cons (fun fF bF uF kF hJF hfF hcF hupF hsF hKF=>?_) ?_
     ·obtain ⟨j0,j1,j2,j3,j4,j5,hB⟩:=hJF
      have e3:bF.eval (.tmp 3) = .pointer (some ⟨w.heap.size,0,none⟩):=hsF.old' 3 (by kernel_rfl) rfl
      exact lin_pure rfl (.slice (some ⟨w.heap.size,0,none⟩) 32 32) (by simp only [execOp,e3];first|rfl|(go_simp;done)) (hKF _ _ ⟨j0,fun _ h=>⟨sI h,trivial⟩,j2,j3,j4,j5,hB⟩)
     refine LinAll.cons (fun fF bF uF kF hJF hfF hcF hupF hsF hKF=>?_) ?_
     ·obtain ⟨j0,j1,j2,j3,j4,j5,hB⟩:=hJF
      have e2:bF.eval (.tmp 2) = .slice sb nb cb:=hsF.old' 2 (by kernel_rfl) rfl
      exact lin_pure rfl (.slice sb nb cb) (by simp only [execOp,e2] <;> first|rfl|kernel_rfl|(go_simp;done)) (hKF _ _ ⟨j0,j1,fun _ h=>⟨sI h,trivial⟩,j3,j4,j5,hB⟩)
     refine LinAll.cons (fun fF bF uF kF hJF hfF hcF hupF hsF hKF=>?_) ?_
     ·obtain ⟨j0,j1,j2,j3,j4,j5,hB⟩:=hJF
      obtain ⟨e41,p41⟩:=hsF.at hupF 0 41 (by kernel_rfl) rfl j0
      obtain ⟨e42,p42⟩:=hsF.at hupF 1 42 (by kernel_rfl) rfl j1
      obtain ⟨e43,p43⟩:=hsF.at hupF 2 43 (by kernel_rfl) rfl j2
      have hB1:Blk w (uF.alloc (.cells #[.slice (some ⟨g7,0,none⟩) 32 32, .slice (some ⟨w.heap.size,0,none⟩) 32 32, .slice sb nb cb] 24)) ([(w.heap.size,arr .u8 ks, 23),(w.heap.size+1,arr .u8 gs, 26),(g7,arr .u8 rg0, 23),(g8,arr .u8 sg0, 23),(g9,arr .i64 z13, 102),(g11,arr .i64 z16, 102)] ++ (ent ((some (.slice (some ⟨uF.heap.size,0,none⟩) 3 3):Option Value)) (#[.slice (some ⟨g7,0,none⟩) 32 32, .slice (some ⟨w.heap.size,0,none⟩) 32 32, .slice sb nb cb]) 24 ++ (ent (fF 5) ((if (fF 6).isSome=true then arr .u8 kg0 else arr .u8 zn)) 23))):=hB.ins (a:=[(w.heap.size,arr .u8 ks, 23),(w.heap.size+1,arr .u8 gs, 26),(g7,arr .u8 rg0, 23),(g8,arr .u8 sg0, 23),(g9,arr .i64 z13, 102),(g11,arr .i64 z16, 102)]) (b:=ent (fF 5) ((if (fF 6).isSome=true then arr .u8 kg0 else arr .u8 zn)) 23) _ _ (by rw [hfF];simp only [ent_none,List.nil_append,List.append_nil,List.append_assoc,List.cons_append]) (by simp only [ent_slice,List.nil_append,List.append_nil,List.append_assoc,List.cons_append,Option.isSome_none,Bool.false_eq_true,if_false])
      rw [if_pos (by simp [Region.wanted])]
      unfold Oper.wp
      simp only [execOp,List.map_toArray,List.map_cons,List.map_nil,e41,e42,e43]
      clear hcF hupF hsF
      go_simp
      exact hKF _ _ ⟨j0,j1,j2,fun _ h=>⟨_,sI h⟩,j4,j5,hB1⟩
     refine LinAll.cons (fun fF bF uF kF hJF hfF hcF hupF hsF hKF=>?_) ?_
     ·obtain ⟨j0,j1,j2,j3,j4,j5,hB⟩:=hJF
      have y3:=hupF 3 (by kernel_rfl)
      obtain ⟨v3,s3⟩:=sE y3
      obtain ⟨gv9_6,rfl⟩:=j3 _ s3
      have e44:=hsF.val 3 44 rfl s3
      have hB':=hB
      rw [s3] at hB'
      have hsl:=src_three (hB'.get 6 rfl) (Sl.src_all (hB'.get 2 rfl) 32 HRGL.out) (Sl.src_all (hB'.get 0 rfl) 32 HKL.out) (HSB.out.below hB.below) (Nat.le_refl _) (Nat.le_refl _) HCB.out
      refine lin_call rfl 89 [.tmp 44] _ [.slice (some ⟨gv9_6,0,none⟩) 3 3] rfl (by simp only [List.map_cons,List.map_nil,e44] <;> rfl) (fun _ _=>by kernel_rfl) ?_
      refine Calls.mono (HSUM.out _ _ hsl (tabk_below HTK.out hB.below) (HTQ.out.below hB.below)) ?_
      rintro e w1 ⟨rfl,hb⟩
      exact ⟨_,rfl,hKF _ _ ⟨j0,j1,j2,j3,fun _ h=>⟨sI h,trivial⟩,j5,hB.kept hb⟩⟩
     refine LinAll.cons (fun fF bF uF kF hJF hfF hcF hupF hsF hKF=>?_) ?_
     ·obtain ⟨j0,j1,j2,j3,j4,j5,hB⟩:=hJF
      have n6:=hcF.down 6 5 (by kernel_rfl) hfF
      refine step_alloc_row rfl 23 rfl _ (HZzn.out _) ?_
      have hB1:Blk w (uF.alloc (.cells (arr .u8 zn) 23)) ([(w.heap.size,arr .u8 ks, 23),(w.heap.size+1,arr .u8 gs, 26),(g7,arr .u8 rg0, 23),(g8,arr .u8 sg0, 23),(g9,arr .i64 z13, 102),(g11,arr .i64 z16, 102)] ++ (ent (fF 3) (#[.slice (some ⟨g7,0,none⟩) 32 32, .slice (some ⟨w.heap.size,0,none⟩) 32 32, .slice sb nb cb]) 24 ++ (ent ((some (.pointer (some ⟨uF.heap.size,0,none⟩)):Option Value)) ((if (fF 6).isSome=true then arr .u8 kg0 else arr .u8 zn)) 23))):=hB.ins (a:=[(w.heap.size,arr .u8 ks, 23),(w.heap.size+1,arr .u8 gs, 26),(g7,arr .u8 rg0, 23),(g8,arr .u8 sg0, 23),(g9,arr .i64 z13, 102),(g11,arr .i64 z16, 102)] ++ ent (fF 3) (#[.slice (some ⟨g7,0,none⟩) 32 32, .slice (some ⟨w.heap.size,0,none⟩) 32 32, .slice sb nb cb]) 24) (b:=[]) _ _ (by rw [hfF,n6];simp only [ent_none,List.nil_append,List.append_nil,List.append_assoc,List.cons_append]) (by rw [n6];simp only [ent_some,List.nil_append,List.append_nil,List.append_assoc,List.cons_append,Option.isSome_none,Bool.false_eq_true,if_false])
      exact hKF _ _ ⟨j0,j1,j2,j3,j4,fun _ h=>⟨_,sI h⟩,hB1⟩
     refine LinAll.cons (fun fF bF uF kF hJF hfF hcF hupF hsF hKF=>?_) ?_
     ·obtain ⟨j0,j1,j2,j3,j4,j5,hB⟩:=hJF
      have y3:=hupF 3 (by kernel_rfl)
      obtain ⟨v3,s3⟩:=sE y3
      obtain ⟨gv9_6,rfl⟩:=j3 _ s3
      have y5:=hupF 5 (by kernel_rfl)
      obtain ⟨v5,s5⟩:=sE y5
      obtain ⟨gv9_7,rfl⟩:=j5 _ s5
      have e13:=hsF.val 5 13 rfl s5
      obtain ⟨e45,p45⟩:=hsF.at hupF 4 45 (by kernel_rfl) rfl j4
      have hB':=hB
      rw [s3,s5,hfF] at hB'
      refine step_store_whole rfl 23 (.tmp 13) (.tmp 45) rfl (gv9_7) (arr .u8 zn) _ 23 (hB'.get 7 rfl) e13 e45 (arr_len2 _ _ HKGL.out HLzn.out) (num_s HKGL.out) (all_arr _ _) ?_
      intro w1 hb1 hk1 hz1
      have hB1:Blk w w1 ([(w.heap.size,arr .u8 ks, 23),(w.heap.size+1,arr .u8 gs, 26),(g7,arr .u8 rg0, 23),(g8,arr .u8 sg0, 23),(g9,arr .i64 z13, 102),(g11,arr .i64 z16, 102)] ++ (ent (fF 3) (#[.slice (some ⟨g7,0,none⟩) 32 32, .slice (some ⟨w.heap.size,0,none⟩) 32 32, .slice sb nb cb]) 24 ++ (ent (fF 5) ((if ((some undef:Option Value)).isSome=true then arr .u8 kg0 else arr .u8 zn)) 23))):=by rw [s3,s5];exact hB'.put 7 rfl hk1 hb1
      exact hKF undef w1 ⟨j0,j1,j2,j3,j4,j5,hB1⟩
     exact LinAll.nil
    case ev9 =>
    intro fF uv9 hall hJF
    obtain ⟨j0,j1,j2,j3,j4,j5,hB⟩:=hJF
    obtain ⟨v0,h0⟩:=sE (hall 0 (by decide))
    obtain ⟨rfl,p0⟩:=j0 _ h0
    obtain ⟨v1,h1⟩:=sE (hall 1 (by decide))
    obtain ⟨rfl,p1⟩:=j1 _ h1
    obtain ⟨v2,h2⟩:=sE (hall 2 (by decide))
    obtain ⟨rfl,p2⟩:=j2 _ h2
    obtain ⟨v3,h3⟩:=sE (hall 3 (by decide))
    obtain ⟨gv9_6,rfl⟩:=j3 _ h3
    obtain ⟨v4,h4⟩:=sE (hall 4 (by decide))
    obtain ⟨rfl,p4⟩:=j4 _ h4
    obtain ⟨v5,h5⟩:=sE (hall 5 (by decide))
    obtain ⟨gv9_7,rfl⟩:=j5 _ h5
    obtain ⟨v6,h6⟩:=sE (hall 6 (by decide))
    rw [h3,h5,h6] at hB
    have HBv9:Hid (Blk w uv9 [(w.heap.size,arr .u8 ks, 23),(w.heap.size+1,arr .u8 gs, 26),(g7,arr .u8 rg0, 23),(g8,arr .u8 sg0, 23),(g9,arr .i64 z13, 102),(g11,arr .i64 z16, 102),(gv9_6, #[.slice (some ⟨g7,0,none⟩) 32 32, .slice (some ⟨w.heap.size,0,none⟩) 32 32, .slice sb nb cb], 24),(gv9_7,arr .u8 kg0, 23)]):=Lib.hid hB
    simp only [laid,Nat.zero_add,Nat.reduceAdd,h0,h1,h2,h3,h4,h5,h6,Act.put,sA,sZ,sS]
    clear j0 j1 j2 j3 j4 j5 hB h0 h1 h2 h3 h4 h5 h6 hall fF HI19
    clear p0 p1 p2 p4
    (try simp only [Exit.then])
    go_upto_region 10 with fail
    (try simp only [World.size_alloc,Act.put,sA,sZ,sS])
    have HK0:=Lib.hid ((Kept.refl (fun _=>False) uv9).drew)
    have HBd:=Lib.hid (HBv9.out.drew)
    refine wp_region_held_drew (S:=(fun w'=>Kept (fun _=>False) uv9 w')) (by kernel_rfl) (HK0.out) (fun hHeld=>?_)
    generalize uv9.drew=wd at HK0 HBd hHeld ⊢
    refine' wpAnyH_take (i:=1) (oi:=(⟨some 47,_,_,_,_,none⟩:Oper)) (v:=_) rfl (by kernel_rfl) (by kernel_rfl) (by kernel_rfl) (fun _ _ _ h=>h) (yieldsIf_load_mid (by rfl) _ _ rfl _ _ rfl (sg0.map (Value.int .u8)) _ ?hS4701 Tryd.underlying23 rfl (by rw [List.length_map];exact num_i HSGL.out)) (by assumption) ?rest4701
    case hS4701=>(intro w hSw;(try dsimp only at hSw);exact range_part (hSw.blk (HBv9.out.get 3 rfl) (fun e=>e.elim)) 0 _ (by rw [List.length_map];exact arr_part _ _))
    (try simp only [Act.put,sA,sZ,sS])
    refine' wpAnyH_take (i:=4) (oi:=(⟨some 50,_,_,_,_,none⟩:Oper)) (v:=_) rfl (by kernel_rfl) (by kernel_rfl) (by kernel_rfl) (fun _ _ _ h=>h) (yieldsIf_load_mid (by rfl) _ _ rfl _ _ rfl (z16.map (Value.int .i64)) _ ?hS4702 Tryd.underlying102 rfl (by rw [List.length_map];exact pt_i HL16.out)) (by assumption) ?rest4702
    case hS4702=>(intro w hSw;(try dsimp only at hSw);exact range_part (hSw.blk (HBv9.out.get 5 rfl) (fun e=>e.elim)) 0 _ (by rw [List.length_map];exact arr_part _ _))
    (try simp only [Act.put,sA,sZ,sS])
    refine' wpAnyH_take (i:=5) (oi:=(⟨some 51,_,_,_,_,none⟩:Oper)) (v:=_) rfl (by kernel_rfl) (by kernel_rfl) (by kernel_rfl) (fun _ _ _ h=>h) (yieldsIf_load_mid (by rfl) _ _ rfl _ _ rfl (z13.map (Value.int .i64)) _ ?hS4703 Tryd.underlying102 rfl (by rw [List.length_map];exact pt_i HL13.out)) (by assumption) ?rest4703
    case hS4703=>(intro w hSw;(try dsimp only at hSw);exact range_part (hSw.blk (HBv9.out.get 4 rfl) (fun e=>e.elim)) 0 _ (by rw [List.length_map];exact arr_part _ _))
    (try simp only [Act.put,sA,sZ,sS])
    refine' wpAnyH_take (i:=6) (oi:=(⟨some 52,_,_,_,_,none⟩:Oper)) (v:=_) rfl (by kernel_rfl) (by kernel_rfl) (by kernel_rfl) (fun _ _ _ h=>h) (yieldsIf_load_mid (by rfl) _ _ rfl _ _ rfl (kg0.map (Value.int .u8)) _ ?hS4704 Tryd.underlying23 rfl (by rw [List.length_map];exact num_i HKGL.out)) (by assumption) ?rest4704
    case hS4704=>(intro w hSw;(try dsimp only at hSw);exact range_part (hSw.blk (HBv9.out.get 7 rfl) (fun e=>e.elim)) 0 _ (by rw [List.length_map];exact arr_part _ _))
    (try simp only [Act.put,sA,sZ,sS])
    refine wpAnyH_ready (rs:=[0]) (by kernel_rfl) (by simp) ?_
    refine AllReadyH.cons (o:=(⟨some 46,_,_,_,_,none⟩:Oper)) rfl (fun K hK=>?_) AllReadyH.nil
    go_simp
    go_at_call 63
    refine (base_any _ (range_below HTX.out HBd.out.below) (range_below HTY.out HBd.out.below)).mono ?_
    rintro e w4705 ⟨z4705,rfl,h4705,hb4705⟩
    have HZ4705:=Lib.hid h4705
    have HL4705:=Lib.hid h4705.len
    clear h4705
    have HB4705:=Lib.hid (HBd.out.kept hb4705)
    have HK4705:=Lib.hid (HK0.out.trans (Kept.of_below hb4705))
    clear hb4705
    (try dsimp only)
    clear HBd
    clear HK0
    clear hHeld
    refine hK.out _ _ (HK4705.out) (fun hHeld=>?_)
    clear hK K
    (try simp only [Act.put,sA,sZ,sS])
    refine wpAnyH_ready (rs:=[2]) (by kernel_rfl) (by simp) ?_
    refine AllReadyH.cons (o:=(⟨some 48,_,_,_,_,none⟩:Oper)) rfl (fun K hK=>?_) AllReadyH.nil
    go_simp
    go_at_call 62
    refine (HMANY.out _ _ _ HZ4705.out (range_below HTD.out HB4705.out.below)).mono ?_
    rintro e w4706 ⟨z4706,rfl,h4706,hb4706⟩
    have HZ4706:=Lib.hid h4706
    have HL4706:=Lib.hid h4706.len
    clear h4706
    have HB4706:=Lib.hid (HB4705.out.kept hb4706)
    have HK4706:=Lib.hid (HK4705.out.trans (Kept.of_below hb4706))
    clear hb4706
    (try dsimp only)
    clear HB4705
    clear HK4705
    clear hHeld
    refine hK.out _ _ (HK4706.out) (fun hHeld=>?_)
    clear hK K
    (try simp only [Act.put,sA,sZ,sS])
    refine wpAnyH_ready (rs:=[3]) (by kernel_rfl) (by simp) ?_
    refine AllReadyH.cons (o:=(⟨some 49,_,_,_,_,none⟩:Oper)) rfl (fun K hK=>?_) AllReadyH.nil
    go_simp
    go_at_call 61
    refine (HW1.out _ _ HZ4706.out).mono ?_
    rintro e w4707 ⟨rfl,hb4707⟩
    have HB4707:=Lib.hid (HB4706.out.kept hb4707)
    have HK4707:=Lib.hid (HK4706.out.trans (Kept.of_below hb4707))
    clear hb4707
    (try dsimp only)
    clear HB4706
    clear HK4706
    clear hHeld
    refine hK.out _ _ (HK4707.out) (fun hHeld=>?_)
    clear hK K
    (try simp only [Act.put,sA,sZ,sS])
    refine wpAnyH_ready (rs:=[7]) (by kernel_rfl) (by simp) ?_
    refine AllReadyH.cons (o:=(⟨some 53,_,_,_,_,none⟩:Oper)) rfl (fun K hK=>?_) AllReadyH.nil
    go_simp
    go_at_call 62
    refine (HMANY2.out _ _ _ HPA.out (range_below HTD.out HB4707.out.below)).mono ?_
    rintro e w4708 ⟨z4708,rfl,h4708,hb4708⟩
    have HZ4708:=Lib.hid h4708
    have HL4708:=Lib.hid h4708.len
    clear h4708
    have HB4708:=Lib.hid (HB4707.out.kept hb4708)
    have HK4708:=Lib.hid (HK4707.out.trans (Kept.of_below hb4708))
    clear hb4708
    (try dsimp only)
    clear HB4707
    clear HK4707
    clear hHeld
    refine hK.out _ _ (HK4708.out) (fun hHeld=>?_)
    clear hK K
    (try simp only [Act.put,sA,sZ,sS])
    refine wpAnyH_ready (rs:=[8]) (by kernel_rfl) (by simp) ?_
    refine AllReadyH.cons (o:=(⟨some 54,_,_,_,_,none⟩:Oper)) rfl (fun K hK=>?_) AllReadyH.nil
    go_simp
    go_at_call 100
    refine (sum_any _ _ _ _ _ HPR.out HZ4708.out (range_below HTD.out HB4708.out.below)).mono ?_
    rintro e w4709 ⟨z4709,rfl,h4709,hb4709⟩
    have HZ4709:=Lib.hid h4709
    have HL4709:=Lib.hid h4709.len
    clear h4709
    have HB4709:=Lib.hid (HB4708.out.kept hb4709)
    have HK4709:=Lib.hid (HK4708.out.trans (Kept.of_below hb4709))
    clear hb4709
    (try dsimp only)
    clear HB4708
    clear HK4708
    clear hHeld
    refine hK.out _ _ (HK4709.out) (fun hHeld=>?_)
    clear hK K
    (try simp only [Act.put,sA,sZ,sS])
    refine wpAnyH_ready (rs:=[9]) (by kernel_rfl) (by simp) ?_
    refine AllReadyH.cons (o:=(⟨some 55,_,_,_,_,none⟩:Oper)) rfl (fun K hK=>?_) AllReadyH.nil
    go_simp
    go_at_call 61
    refine (HW2.out _ _ HZ4709.out).mono ?_
    rintro e w4710 ⟨rfl,hb4710⟩
    have HB4710:=Lib.hid (HB4709.out.kept hb4710)
    have HK4710:=Lib.hid (HK4709.out.trans (Kept.of_below hb4710))
    clear hb4710
    (try dsimp only)
    clear HB4709
    clear HK4709
    clear hHeld
    refine hK.out _ _ (HK4710.out) (fun hHeld=>?_)
    clear hK K
    (try simp only [Act.put,sA,sZ,sS])
    refine wpAnyH_take (i:=10) (oi:=(⟨some 56,_,_,_,_,none⟩:Oper)) (v:=(.bool ev)) rfl (by kernel_rfl) (by kernel_rfl) (by kernel_rfl) (fun _ _ _ h=>h) (Or.inl ⟨by rfl,?hy4711⟩) (by assumption) ?rest4711
    case hy4711=>(intro w hSw;(try dsimp only at hSw);exact Sl.exec_eql_arr 23 _ _ (.tmp 49) (.tmp 55) rfl 32 .u8 .u8 Tryd.underlying23 Tryd.underlying5 (fun w=>by kernel_rfl) (by kernel_rfl) l1 l2 rfl rfl HL1.out HL2.out _ HBE.out)
    (try simp only [Act.put,sA,sZ,sS])
    refine wpAnyH_take (i:=11) (oi:=(⟨some 6,_,_,_,_,none⟩:Oper)) (v:=?v4712) rfl (by kernel_rfl) (by kernel_rfl) (by kernel_rfl) (fun _ _ _ h=>h) (Or.inl ⟨by rfl,?hy4712⟩) (by assumption) ?rest4712
    case hy4712=>(intro w hSw;(try dsimp only at hSw);go_simp;try (with_reducible rfl))
    (try simp only [Act.put,sA,sZ,sS])
    refine wpAnyH_done (by kernel_rfl) ?_ _
    go_wp2_with fail
    (try simp only [Exit.then])
    go_ret
    exact ⟨rfl,HB4710.out.below⟩
end Go.Proofs.YtodnkallpfkdiaaDoor.Rd
