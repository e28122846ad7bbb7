/- portcullislaw16.CertBytes: it answers true. Condition: the arguments' sizes; the tables hold what their text lays. -/
import Derived.Test.YtodnkallpfkdiaaDoorCeV
import Derived.Test.YtodnkallpfkdiaaDoorCeW
set_option maxRecDepth 100000
set_option maxHeartbeats 16000000
set_option linter.unusedSimpArgs false
set_option linter.unusedVariables false
namespace Go.Proofs.YtodnkallpfkdiaaDoor.Ce
open Go.RowKit Lm Fp Cu Sl Sc
theorem _root_.Go.Proofs.YtodnkallpfkdiaaDoor.Blk.more {w u:World} {l:List (Nat×Array Value×TypeId)} (h:Blk w u l) {g:Nat} {c:Array Value} {t:TypeId} (hg:u.heap[g]? = some (.cells c t (0,0))) (hl:w.heap.size≤g) (hne:∀ e∈l,e.1≠g):Blk w u (l ++ [(g,c,t)]):=by
 refine ⟨fun i g' c' t' hi=>?_,fun i j g' c' t' c2 t2 hi hj=>?_,h.below⟩
 ·rw [List.getElem?_append] at hi
  split at hi
  ·exact h.mem i g' c' t' hi
  ·have:=List.mem_of_getElem? hi
   simp only [List.mem_singleton,Prod.mk.injEq] at this
   obtain ⟨rfl,rfl,rfl⟩:=this
   exact ⟨hg,hl⟩
 ·rw [List.getElem?_append] at hi hj
  split at hi <;> split at hj
  ·exact h.inj i j g' c' t' c2 t2 hi hj
  ·have:=List.mem_of_getElem? hj
   simp only [List.mem_singleton,Prod.mk.injEq] at this
   exact absurd this.1 (hne _ (List.mem_of_getElem? hi))
  ·have:=List.mem_of_getElem? hi
   simp only [List.mem_singleton,Prod.mk.injEq] at this
   exact absurd this.1 (hne _ (List.mem_of_getElem? hj))
  ·have h1:=(List.getElem?_eq_some_iff.1 hi).1
   have h2:=(List.getElem?_eq_some_iff.1 hj).1
   simp at h1 h2
   omega
theorem xor_u8 (a b:Int):0≤bits .xor .u8 a b∧bits .xor .u8 a b≤255:=by
 show 0≤IntKind.u8.wrap _∧IntKind.u8.wrap _≤255
 rw [IntKind.wrap_u8]
 omega
theorem bytes_set {xs:List Int} (h:bytes xs) (k:Nat) {v:Int} (hv:0≤v∧v≤255):bytes (xs.set k v):=by
 intro x hx
 rcases List.mem_or_eq_of_mem_set hx with h1|rfl
 ·exact h x h1
 ·exact hv
/-- Not a stop's bytes: another length. -/
theorem rdOk_other {xs:List Int} (h:xs.length≠76):rdOk xs=false:=by
 cases h1:rdOk xs with
 | false=>rfl
 | true=>exact absurd (rdOk_len h1).1 h
theorem rdOk_head {xs:List Int} (h:xs.take 4≠[80,67,83,84]):rdOk xs=false:=by
 cases h1:rdOk xs with
 | false=>rfl
 | true=>exact absurd (rdOk_len h1).2 h
theorem xor32 (k:Nat) (hk:k < 4) (zs:List Int):(([80,67,83,84] ++ zs).set k (bits .xor .u8 (([80,67,83,84] ++ zs).getD k 0) 32)).take 4≠[80,67,83,84]:=by
 have:k=0∨k=1∨k=2∨k=3:=by omega
 rcases this with rfl|rfl|rfl|rfl
 all_goals (simp [List.getD];try decide)
theorem bytes_neg {gs:List Int} (id cut at':Int) (sm:Option Addr) (nm cm:Nat) (w:World) (hT:TabP w) (h:id < 0) :
  Calls Tryd.prog 9 #[.agg (stopC id gs), .int .i64 cut, .slice sm nm cm, .int .i64 at'] w fun e w'=>e = .returned (.bool true)∧Below w.heap.size w w':=by
 have HAL:=Lib.hid (fun (u:World) (h:TabP u)=>alive16_any u h)
 have HT:=Lib.hid hT
 have hc0:∀ u,Blk w u [(w.heap.size,stopC id gs, 52)]→u.cell? ⟨w.heap.size,0,none⟩=some (.int .i64 id):=fun u h=>by rw [cell_blk (h.get 0 rfl)];exact stopC_id id gs
 have HC0:=Lib.hid hc0
 have HS0:=Lib.hid (Blk.one w (stopC id gs) 52)
 clear hT hc0
 go_enter Tryd.func9, Tryd.ntmps9
 go_upto_region 2 with ((with_reducible show Calls _ 22 _ _ _);go_at_call 22; refine (HAL.out _ (HT.out.below HS0.out.below)).mono ?_;rintro e w1 ⟨rfl,hb1⟩;have HS1:=Lib.hid (HS0.out.kept hb1);clear hb1)
 have c0:=HC0.out _ HS1.out
 go_wp2_with fail
 (try simp only [Exit.then])
 go_ret
 exact ⟨rfl,HS1.out.below⟩
theorem bytes_big {gs:List Int} (id cut at':Int) (sm:Option Addr) (nm cm:Nat) (w:World) (hT:TabP w) (h0:¬ id < 0) (h:2147483647 < id) :
  Calls Tryd.prog 9 #[.agg (stopC id gs), .int .i64 cut, .slice sm nm cm, .int .i64 at'] w fun e w'=>e = .returned (.bool true)∧Below w.heap.size w w':=by
 have HAL:=Lib.hid (fun (u:World) (h:TabP u)=>alive16_any u h)
 have HT:=Lib.hid hT
 have hc0:∀ u,Blk w u [(w.heap.size,stopC id gs, 52)]→u.cell? ⟨w.heap.size,0,none⟩=some (.int .i64 id):=fun u h=>by rw [cell_blk (h.get 0 rfl)];exact stopC_id id gs
 have HC0:=Lib.hid hc0
 have HS0:=Lib.hid (Blk.one w (stopC id gs) 52)
 clear hT hc0
 go_enter Tryd.func9, Tryd.ntmps9
 go_upto_region 2 with ((with_reducible show Calls _ 22 _ _ _);go_at_call 22; refine (HAL.out _ (HT.out.below HS0.out.below)).mono ?_;rintro e w1 ⟨rfl,hb1⟩;have HS1:=Lib.hid (HS0.out.kept hb1);clear hb1)
 have c0:=HC0.out _ HS1.out
 go_wp2_with fail
 (try simp only [Exit.then])
 go_ret
 exact ⟨rfl,HS1.out.below⟩
theorem bytes_cut {gs:List Int} (id cut at':Int) (sm:Option Addr) (nm cm:Nat) (w:World) (hT:TabP w) (h0:¬ id < 0) (h1:¬ 2147483647 < id) (h:cut < 0) :
  Calls Tryd.prog 9 #[.agg (stopC id gs), .int .i64 cut, .slice sm nm cm, .int .i64 at'] w fun e w'=>e = .returned (.bool true)∧Below w.heap.size w w':=by
 have HAL:=Lib.hid (fun (u:World) (h:TabP u)=>alive16_any u h)
 have HT:=Lib.hid hT
 have hc0:∀ u,Blk w u [(w.heap.size,stopC id gs, 52)]→u.cell? ⟨w.heap.size,0,none⟩=some (.int .i64 id):=fun u h=>by rw [cell_blk (h.get 0 rfl)];exact stopC_id id gs
 have HC0:=Lib.hid hc0
 have HS0:=Lib.hid (Blk.one w (stopC id gs) 52)
 clear hT hc0
 go_enter Tryd.func9, Tryd.ntmps9
 go_upto_region 2 with ((with_reducible show Calls _ 22 _ _ _);go_at_call 22; refine (HAL.out _ (HT.out.below HS0.out.below)).mono ?_;rintro e w1 ⟨rfl,hb1⟩;have HS1:=Lib.hid (HS0.out.kept hb1);clear hb1)
 have c0:=HC0.out _ HS1.out
 go_wp2_with fail
 (try simp only [Exit.then])
 go_ret
 exact ⟨rfl,HS1.out.below⟩
theorem bytes_more {gs:List Int} (id cut at':Int) (sm:Option Addr) (nm cm:Nat) (w:World) (hT:TabP w) (h0:¬ id < 0) (h1:¬ 2147483647 < id) (h2:¬ cut < 0) (h:(50:Int) < (nm:Int)) :
  Calls Tryd.prog 9 #[.agg (stopC id gs), .int .i64 cut, .slice sm nm cm, .int .i64 at'] w fun e w'=>e = .returned (.bool true)∧Below w.heap.size w w':=by
 have HAL:=Lib.hid (fun (u:World) (h:TabP u)=>alive16_any u h)
 have HT:=Lib.hid hT
 have hc0:∀ u,Blk w u [(w.heap.size,stopC id gs, 52)]→u.cell? ⟨w.heap.size,0,none⟩=some (.int .i64 id):=fun u h=>by rw [cell_blk (h.get 0 rfl)];exact stopC_id id gs
 have HC0:=Lib.hid hc0
 have HS0:=Lib.hid (Blk.one w (stopC id gs) 52)
 clear hT hc0
 go_enter Tryd.func9, Tryd.ntmps9
 go_upto_region 2 with ((with_reducible show Calls _ 22 _ _ _);go_at_call 22; refine (HAL.out _ (HT.out.below HS0.out.below)).mono ?_;rintro e w1 ⟨rfl,hb1⟩;have HS1:=Lib.hid (HS0.out.kept hb1);clear hb1)
 have c0:=HC0.out _ HS1.out
 go_wp2_with fail
 (try simp only [Exit.then])
 go_ret
 exact ⟨rfl,HS1.out.below⟩
theorem bytes_at {gs:List Int} (id cut at':Int) (sm:Option Addr) (nm cm:Nat) (w:World) (hT:TabP w) (h0:¬ id < 0) (h1:¬ 2147483647 < id) (h2:¬ cut < 0) (h3:¬ (50:Int) < (nm:Int)) (h:at' < 0) :
  Calls Tryd.prog 9 #[.agg (stopC id gs), .int .i64 cut, .slice sm nm cm, .int .i64 at'] w fun e w'=>e = .returned (.bool true)∧Below w.heap.size w w':=by
 have HAL:=Lib.hid (fun (u:World) (h:TabP u)=>alive16_any u h)
 have HT:=Lib.hid hT
 have hc0:∀ u,Blk w u [(w.heap.size,stopC id gs, 52)]→u.cell? ⟨w.heap.size,0,none⟩=some (.int .i64 id):=fun u h=>by rw [cell_blk (h.get 0 rfl)];exact stopC_id id gs
 have HC0:=Lib.hid hc0
 have HS0:=Lib.hid (Blk.one w (stopC id gs) 52)
 clear hT hc0
 go_enter Tryd.func9, Tryd.ntmps9
 go_upto_region 2 with ((with_reducible show Calls _ 22 _ _ _);go_at_call 22; refine (HAL.out _ (HT.out.below HS0.out.below)).mono ?_;rintro e w1 ⟨rfl,hb1⟩;have HS1:=Lib.hid (HS0.out.kept hb1);clear hb1)
 have c0:=HC0.out _ HS1.out
 go_wp2_with fail
 (try simp only [Exit.then])
 go_ret
 exact ⟨rfl,HS1.out.below⟩
theorem bytes_core {gs ms:List Int} (id:Int) (I J:Nat) (sm:Option Addr) (nm cm:Nat) (w:World) (hg:gs.length=64) (hgb:bytes gs) (hms:Src w sm nm ms) (hmb:bytes ms) (hT:TabP w) (h0:0≤id∧id≤2147483647) (hn:nm≤50) :
  Calls Tryd.prog 9 #[.agg (stopC id gs), .int .i64 (I:Int), .slice sm nm cm, .int .i64 (J:Int)] w fun e w'=>e = .returned (.bool true)∧Below w.heap.size w w':=by
 have g0:¬ id < 0:=by omega
 have g1:¬ 2147483647 < id:=by omega
 have g2:¬ ((I:Int) < 0):=by omega
 have g3:¬ (50:Int) < (nm:Int):=by omega
 have g4:¬ ((J:Int) < 0):=by omega
 have hi76:((I:Int)).tmod 76=((I % 76:Nat):Int):=by rw [Int.tmod_eq_emod_of_nonneg (by omega)];omega
 have hj4:((J:Int)).tmod 4=((J % 4:Nat):Int):=by rw [Int.tmod_eq_emod_of_nonneg (by omega)];omega
 have hi:=Nat.mod_lt I (show 0 < 76 by decide)
 have hj:=Nat.mod_lt J (show 0 < 4 by decide)
 have hok:okI id=true:=by simp [okI];omega
 have hlm:=hms.len
 have hal:=fun (u:World) (h:TabP u)=>alive16_any u h
 have hp:=fun (u:World)=>packStop_any (gs:=gs) id u hg
 rw [hok,if_pos rfl,if_pos rfl] at hp
 obtain ⟨T,hTe⟩:∃ T,T=stopT id ++ gs:=⟨_,rfl⟩
 have hlT:T.length=76:=by rw [hTe,List.length_append,stopT_len,hg]
 have hbT:bytes T:=by rw [hTe];exact bytes_app (stopT_bytes id) hgb
 have hrT:rdOk T=true:=by rw [hTe];exact (stopT_read id gs hok hg).1
 have hT4:T=[80,67,83,84] ++ T.drop 4:=by rw [hTe];simp [stopT,packL]
 rw [← hTe] at hp
 have hrd:∀ (zs:List Int),bytes zs→zs.length≤1000→∃ XC:Array Value,XC.size=65∧XC.all (·.oneCell')=true∧∀ (u:World) (s:Option Addr) (c:Nat),Src u s zs.length zs→Calls Tryd.prog 32 #[.slice s zs.length c] u fun e w'=>e = .returned (.tuple #[.agg XC, .int .i64 (if rdOk zs=true then 0 else 4)])∧Below u.heap.size u w':=by
  intro zs h2 h3
  obtain ⟨XC,E,hV,hsz,hone, -, hE⟩:=readV_is zs
  refine ⟨XC,hsz,hone,fun u s c h1=>?_⟩
  have:=readStop_any s zs.length c zs u h1 h2 (by omega)
  rwa [hV,hE] at this
 generalize I % 76=i at hi76 hi
 generalize J % 4=j at hj4 hj
 -- the three readings
 have hA:∃ XC:Array Value,XC.size=65∧XC.all (·.oneCell')=true∧∀ (u:World) (g c:Nat),Src u (some ⟨g,0,none⟩) 76 T→Calls Tryd.prog 32 #[.slice (some ⟨g,0,none⟩) i c] u fun e w'=>e = .returned (.tuple #[.agg XC, .int .i64 4])∧Below u.heap.size u w':=by
  have hl:(T.take i).length=i:=by rw [List.length_take,hlT];omega
  obtain ⟨XC,h1,h2,h3⟩:=hrd (T.take i) (fun x hx=>hbT x (List.mem_of_mem_take hx)) (by omega)
  rw [rdOk_other (xs:=T.take i) (by omega),hl] at h3
  exact ⟨XC,h1,h2,fun u g c h=>h3 u _ c (h.take i (by omega))⟩
 have hB:∃ XC:Array Value,XC.size=65∧XC.all (·.oneCell')=true∧∀ (u:World) (v:Value),isB (T ++ ms) u v→Calls Tryd.prog 32 #[v] u fun e w'=>e = .returned (.tuple #[.agg XC, .int .i64 (if nm=0 then 0 else 4)])∧Below u.heap.size u w':=by
  have hl:(T ++ ms).length=76+nm:=by rw [List.length_append,hlT,hlm]
  obtain ⟨XC,h1,h2,h3⟩:=hrd (T ++ ms) (bytes_app hbT hmb) (by omega)
  have he:(if rdOk (T ++ ms)=true then (0:Int) else 4)=if nm=0 then 0 else 4:=by
   by_cases hz:nm=0
   ·have hme:ms=[]:=List.eq_nil_of_length_eq_zero (by omega)
    rw [if_pos hz,hme,List.append_nil,hrT,if_pos rfl]
   ·rw [if_neg hz,rdOk_other (xs:=T ++ ms) (by omega)]
    rfl
  rw [he] at h3
  refine ⟨XC,h1,h2,fun u v h=>?_⟩
  obtain ⟨s,c,rfl, -, hs⟩:=h
  exact h3 u s c hs
 obtain ⟨y,hy⟩:∃ y,y=T.getD j 0:=⟨_,rfl⟩
 obtain ⟨T2,hT2⟩:∃ x,x=T.set j (bits .xor .u8 y 32):=⟨_,rfl⟩
 have hC:∃ XC:Array Value,XC.size=65∧XC.all (·.oneCell')=true∧∀ (u:World) (g c:Nat),Src u (some ⟨g,0,none⟩) 76 T2→Calls Tryd.prog 32 #[.slice (some ⟨g,0,none⟩) 76 c] u fun e w'=>e = .returned (.tuple #[.agg XC, .int .i64 4])∧Below u.heap.size u w':=by
  have hl:T2.length=76:=by rw [hT2,List.length_set,hlT]
  obtain ⟨XC,h1,h2,h3⟩:=hrd T2 (by rw [hT2];exact bytes_set hbT j (xor_u8 _ _)) (by omega)
  rw [rdOk_head (xs:=T2) (by rw [hT2,hy,hT4];exact xor32 j hj _),hl] at h3
  exact ⟨XC,h1,h2,fun u g c h=>h3 u _ c h⟩
 obtain ⟨XA,a1,a2,hA⟩:=hA
 obtain ⟨XB,b1,b2,hB⟩:=hB
 obtain ⟨XD,d1,d2,hC⟩:=hC
 have hcj:∀ (cur:Array Value),cur.toList.take (76 * 1)=T.map (Value.int .u8)→cur[j]? = some (.int .u8 y):=by
  intro cur h
  have h2:=congrArg (fun l=>l[j]?) h
  simp only [Nat.mul_one,List.getElem?_take,show j < 76 by omega,if_true,List.getElem?_map] at h2
  rw [hy]
  simpa [List.getD,show j < T.length by omega] using h2
 have hcs:∀ (cur:Array Value),cur.toList.take (76 * 1)=T.map (Value.int .u8)→(cur.setIfInBounds j (.int .u8 (bits .xor .u8 y 32))).toList.take (T2.length * 1)=T2.map (Value.int .u8):=by
  intro cur h
  rw [hT2,List.length_set,hlT,Array.toList_setIfInBounds,List.take_set,h,List.map_set]
 have hl2:T2.length=76:=by rw [hT2,List.length_set,hlT]
 obtain ⟨zt,hzt⟩:∃ c,c=stopC 0 (List.replicate 64 0):=⟨_,rfl⟩
 have hts:=stopC_size (id:=0) (gs:=List.replicate 64 0) (by simp)
 have htz:=fun w=>zero_stop w
 rw [← hzt] at hts htz
 have hc0:=stopC_id id gs
 have hsi:(Tryd.prog.info? 52).map (·.size)=some (stopC id gs).size:=by rw [stopC_size hg];exact size_stop
 obtain ⟨SC,hSC⟩:∃ c,c=stopC id gs:=⟨_,rfl⟩
 rw [← hSC] at hp hc0 hsi ⊢
 have HAL:=Lib.hid hal
 have HP:=Lib.hid hp
 have HA:=Lib.hid hA
 have HB:=Lib.hid hB
 have HC:=Lib.hid hC
 have HCJ:=Lib.hid hcj
 have HCS:=Lib.hid hcs
 have HL2:=Lib.hid hl2
 have HLT:=Lib.hid hlT
 have HMS:=Lib.hid hms
 have HTZ:=Lib.hid htz
 have HC0:=Lib.hid hc0
 have HSI:=Lib.hid hsi
 have HA1:Hid (XA.size=zt.size):=Lib.hid (by rw [a1,hts])
 have HA2:=Lib.hid a2
 have HAI:Hid ((Tryd.prog.info? 52).map (·.size)=some XA.size):=Lib.hid (by rw [a1];exact size_stop)
 have HB1:Hid (XB.size=zt.size):=Lib.hid (by rw [b1,hts])
 have HB2:=Lib.hid b2
 have HBI:Hid ((Tryd.prog.info? 52).map (·.size)=some XB.size):=Lib.hid (by rw [b1];exact size_stop)
 have HD1:Hid (XD.size=zt.size):=Lib.hid (by rw [d1,hts])
 have HD2:=Lib.hid d2
 have HDI:Hid ((Tryd.prog.info? 52).map (·.size)=some XD.size):=Lib.hid (by rw [d1];exact size_stop)
 have HT:=Lib.hid hT
 have HS0:=Lib.hid (Blk.one w SC 52)
 clear hal hp hA hB hC hrd hcj hcs hl2 hlT hms hmb hts htz hc0 hsi a1 a2 b1 b2 d1 d2 hT hSC hzt hT2 hy hT4 hrT hbT hTe hok hlm hg hgb
 go_enter Tryd.func9, Tryd.ntmps9
 go_upto_region 2 with ((with_reducible show Calls _ 22 _ _ _);go_at_call 22; refine (HAL.out _ (HT.out.below HS0.out.below)).mono ?_;rintro e w1 ⟨rfl,hb1⟩;have HS1:=Lib.hid (HS0.out.kept hb1);clear hb1)
 have c0:w1.cell? ⟨w.heap.size,0,none⟩=some (.int .i64 id):=by rw [cell_blk (HS1.out.get 0 rfl)];exact HC0.out
 go_upto_region 5 with (first|((with_reducible refine aS 46 ?_);refine wpList_load_row rfl 52 _ rfl (w.heap.size) rfl 52 _ (0,0) _ (HS1.out.get 0 rfl) Tryd.underlying52 rfl HSI.out ?_)|((with_reducible show Calls _ 34 _ _ _);go_at_call 34; refine (HP.out _).mono ?_;rintro e w2 ⟨v10,rfl,ho,hb⟩;have HS2:=Lib.hid (HS1.out.kept hb);have HO:=Lib.hid ho;clear ho hb))
 (try simp only [World.size_alloc,Act.put,sA,sZ,sS])
 obtain ⟨-, ho2⟩:=HO.out
 have hor:=ho2.resolve_left (fun h=>by have h1:=h.2;rw [HLT.out] at h1;cases h1)
 obtain ⟨g10,cp,cur,rfl,hB10,hcur,hn10,hm10,hs10,ht10⟩:=hor
 rw [HLT.out] at hn10 ht10 ⊢
 have hlow:=HS1.out.below.size
 have h01:=HS1.out.lt 0 rfl
 have HS3:=Lib.hid (HS2.out.more hcur (by omega) (by intro e he;simp only [List.mem_singleton] at he;subst he;show w.heap.size≠g10;omega))
 have HT10:=Lib.hid ht10
 have HSRC:Hid (∀ u:World,u.heap[g10]? = some (.cells cur 5 (0,0))→Src u (some ⟨g10,0,none⟩) 76 T):=Lib.hid (fun u h=>src_row h (by rw [HLT.out];exact ht10) HLT.out)
 have HG10:=Lib.hid hn10
 clear c0 ho2 hB10 hcur hm10 hs10 ht10 hlow h01 HO HS2 HP
 have hcap:¬ (cp:Int) < (i:Int):=by have:=HG10.out;omega
 have hi0:¬ (i:Int) < 0:=by omega
 go_upto_region 8 with (first|((with_reducible show Calls _ 25 _ _ _);go_at_call 25; refine (num16_any _ _).mono ?_;rintro e w' ⟨rfl,rfl⟩)|((with_reducible show Calls _ 32 _ _ _);go_at_call 32; refine (HA.out _ _ _ (HSRC.out _ (HS3.out.get 1 rfl))).mono ?_;rintro e w4 ⟨rfl,hb⟩;have HS4:=Lib.hid (HS3.out.kept hb);clear hb)|((with_reducible refine aS 12 ?_);refine wpList_alloc_row rfl 52 rfl _ (HTZ.out _) ?_;have HS5:=Lib.hid (HS4.out.alloc (zt) 52);generalize w4.heap.size=g12 at HS5 ⊢; generalize w4.alloc (.cells (zt) 52)=w5 at HS5 ⊢)|((with_reducible refine aT 12 ?_);refine wpList_store_whole rfl 52 _ _ rfl (g12) _ _ 52 (HS5.out.get 2 rfl) rfl rfl HA1.out HAI.out HA2.out ?_;intro w6 hb hk hz;have HS6:=Lib.hid (HS5.out.put 2 rfl hk hb);clear hb hk hz))
 (try simp only [World.size_alloc,Act.put,sA,sZ,sS])
 go_upto_region 9 with (first|((with_reducible refine aS 68 ?_);refine wpList_app8 rfl (.const (.slice none 0 0)) (.tmp 67) rfl w6.heap.size _ [] rfl (Own8.nil _ _) (some ⟨g10,0,none⟩) 76 cp T rfl (HSRC.out _ (HS6.out.get 1 rfl)) (by decide) (Nat.le_refl _) ?_;rw [List.nil_append];intro v68 w68 how hgr _ _;have HB68:=Lib.hid (app8_below (Own8.nil w6 w6.heap.size) hgr (Below.refl _ _) (Nat.le_refl _));have HO68:=Lib.hid how;clear how hgr)|((with_reducible refine aS 70 ?_);refine wpList_app8 rfl (.tmp 68) (.tmp 69) rfl w6.heap.size v68 T rfl HO68.out sm nm cm ms rfl (HMS.out.below (HS6.out.below.trans (HB68.out.mono HS6.out.below.size))) (by rw [HLT.out];omega) HB68.out.size ?_;intro v70 w70 how hgr _ _;have HS7:=Lib.hid (HS6.out.kept (app8_below HO68.out hgr HB68.out HB68.out.size));have HO70:=Lib.hid how;clear how hgr)|((with_reducible show Calls _ 32 _ _ _);go_at_call 32; refine (HB.out _ _ (isB.own HO70.out)).mono ?_;rintro e w8 ⟨rfl,hb⟩;have HS8:=Lib.hid (HS7.out.kept hb);clear hb)|((with_reducible refine aS 14 ?_);refine wpList_alloc_row rfl 52 rfl _ (HTZ.out _) ?_;have HS9:=Lib.hid (HS8.out.alloc (zt) 52);generalize w8.heap.size=g14 at HS9 ⊢; generalize w8.alloc (.cells (zt) 52)=w9 at HS9 ⊢)|((with_reducible refine aT 14 ?_);refine wpList_store_whole rfl 52 _ _ rfl (g14) _ _ 52 (HS9.out.get 3 rfl) rfl rfl HB1.out HBI.out HB2.out ?_;intro w10 hb hk hz;have HS10:=Lib.hid (HS9.out.put 3 rfl hk hb);clear hb hk hz))
 (try simp only [World.size_alloc,Act.put,sA,sZ,sS])
 have c0:w10.cell? ⟨g10,j,none⟩=some (.int .u8 y):=by rw [cell_blk (HS10.out.get 1 rfl)];exact HCJ.out cur HT10.out
 have c1:=free_blk (HS10.out.get 1 rfl) j
 have hj76:(j:Int) < 76:=by omega
 have hj0:¬ (j:Int) < 0:=by omega
 go_upto_region 10 with fail
 obtain ⟨w91,hw91⟩:∃ x,x=w10.setCell ⟨g10,j,none⟩ (.int .u8 (bits .xor .u8 y 32)):=⟨_,rfl⟩
 rw [← hw91]
 have hb1:=HS10.out.cell 1 rfl j (.int .u8 (bits .xor .u8 y 32))
 rw [← hw91] at hb1
 have HS90:=Lib.hid hb1
 have HS91:Hid (Src w91 (some ⟨g10,0,none⟩) 76 T2):=Lib.hid (src_row (hb1.get 1 rfl) (HCS.out cur HT10.out) HL2.out)
 clear hw91 c0 c1 hb1
 go_upto_region 11 with (first|((with_reducible show Calls _ 32 _ _ _);go_at_call 32; refine (HC.out _ _ _ HS91.out).mono ?_;rintro e w101 ⟨rfl,hb⟩;have HS101:=Lib.hid (HS90.out.kept hb);clear hb)|((with_reducible refine aS 16 ?_);refine wpList_alloc_row rfl 52 rfl _ (HTZ.out _) ?_;have HS102:=Lib.hid (HS101.out.alloc (zt) 52);generalize w101.heap.size=g16 at HS102 ⊢; generalize w101.alloc (.cells (zt) 52)=w102 at HS102 ⊢)|((with_reducible refine aT 16 ?_);refine wpList_store_whole rfl 52 _ _ rfl (g16) _ _ 52 (HS102.out.get 4 rfl) rfl rfl HD1.out HDI.out HD2.out ?_;intro w103 hb hk hz;have HS103:=Lib.hid (HS102.out.put 4 rfl hk hb);clear hb hk hz))
 (try simp only [World.size_alloc,Act.put,sA,sZ,sS])
 by_cases hz:nm=0
 ·rw [if_pos hz]
  have hz2:((nm:Int) == 0)=true:=by rw [hz];rfl
  clear hz
  go_wp2_with ((with_reducible show Calls _ 25 _ _ _);go_at_call 25; refine (num16_any _ _).mono ?_;rintro e w' ⟨rfl,rfl⟩)
  all_goals (try simp only [Exit.then])
  go_ret
  exact ⟨rfl,HS103.out.below⟩
 ·rw [if_neg hz]
  have hz2:((nm:Int) == 0)=false:=by rw [beq_eq_false_iff_ne];omega
  clear hz
  go_wp2_with ((with_reducible show Calls _ 25 _ _ _);go_at_call 25; refine (num16_any _ _).mono ?_;rintro e w' ⟨rfl,rfl⟩)
  all_goals (try simp only [Exit.then])
  go_ret
  exact ⟨rfl,HS103.out.below⟩
theorem bytes_any {gs ms:List Int} (id cut at':Int) (sm:Option Addr) (nm cm:Nat) (w:World) (hg:gs.length=64) (hgb:bytes gs) (hms:Src w sm nm ms∧bytes ms∧nm≤cm) (hT:TabP w) :
  Calls Tryd.prog 9 #[.agg (stopC id gs), .int .i64 cut, .slice sm nm cm, .int .i64 at'] w fun e w'=>e = .returned (.bool true)∧Below w.heap.size w w':=by
 by_cases h0:id < 0
 ·exact bytes_neg id cut at' sm nm cm w hT h0
 ·by_cases h1:2147483647 < id
  ·exact bytes_big id cut at' sm nm cm w hT h0 h1
  ·by_cases h2:cut < 0
   ·exact bytes_cut id cut at' sm nm cm w hT h0 h1 h2
   ·by_cases h3:(50:Int) < (nm:Int)
    ·exact bytes_more id cut at' sm nm cm w hT h0 h1 h2 h3
    ·by_cases h4:at' < 0
     ·exact bytes_at id cut at' sm nm cm w hT h0 h1 h2 h3 h4
     ·obtain ⟨I,rfl⟩:=Int.eq_ofNat_of_zero_le (show 0≤cut by omega)
      obtain ⟨J,rfl⟩:=Int.eq_ofNat_of_zero_le (show 0≤at' by omega)
      exact bytes_core id I J sm nm cm w hg hgb hms.1 hms.2.1 hT (by omega) (by omega)
end Go.Proofs.YtodnkallpfkdiaaDoor.Ce
