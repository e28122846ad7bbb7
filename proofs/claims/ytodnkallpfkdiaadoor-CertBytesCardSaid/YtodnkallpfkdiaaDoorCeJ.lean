/- The cursor's End, cert.ReadStop: what they answer. Condition: the bytes lie there. -/
import Derived.Test.YtodnkallpfkdiaaDoorCeG
import Derived.Test.YtodnkallpfkdiaaDoorMz
set_option maxRecDepth 100000
set_option maxHeartbeats 16000000
set_option linter.unusedSimpArgs false
set_option linter.unusedVariables false
namespace Go.Proofs.YtodnkallpfkdiaaDoor
open Go.RowKit
theorem cend_any (p q:Nat) (xs:List Int) (bad:Bool) (w:World) (h:IsCur w p q xs bad) :
    Calls Tryd.prog 45 #[.pointer (some ⟨p,0,none⟩)] w fun e w'=>e = .returned (.bool (!bad && decide (xs.length=0)))∧w=w':=by
  obtain ⟨⟨sa,c,h1, -, -, -, -⟩, -, -⟩:=h
  have c0:w.cell? ⟨p,0,none⟩=some (.slice sa xs.length c):=cell_blk h1 0
  have c1:w.cell? ⟨p,1,none⟩=some (.bool bad):=cell_blk h1 1
  clear h1
  generalize xs.length=n at c0 ⊢
  cases bad with
  | true =>
    go_enter Tryd.func45, Tryd.ntmps45
    go_wp2_with fail
    all_goals (try simp only [Exit.then])
    go_ret
    exact ⟨rfl,rfl⟩
  | false =>
    by_cases hn:n=0
    · subst hn
      go_enter Tryd.func45, Tryd.ntmps45
      go_wp2_with fail
      all_goals (try simp only [Exit.then])
      go_ret
      exact ⟨rfl,rfl⟩
    · have hz:((n:Int) == 0)=false:=by rw [beq_eq_false_iff_ne];omega
      rw [decide_eq_false hn]
      go_enter Tryd.func45, Tryd.ntmps45
      go_wp2_with fail
      all_goals (try simp only [Exit.then])
      go_ret
      exact ⟨rfl,rfl⟩
end Go.Proofs.YtodnkallpfkdiaaDoor
namespace Go.Proofs.YtodnkallpfkdiaaDoor.Ce
open Go.RowKit Lm Fp Cu Sl Sc
/-- A cursor at the bytes zs, and a block C at g, below it. -/
structure CuR (w u:World) (g:Nat) (C:Array Value) (t:TypeId) (zs:List Int) (bad:Bool) (p q:Nat):Prop where
  i:u.heap[g]? = some (.cells C t (0,0))
  c:IsCur u p q zs bad
  p1:g≠p
  p2:w.heap.size≤p
  b:Below w.heap.size w u
theorem CuR.turn {w u u':World} {g:Nat} {C:Array Value} {t:TypeId} {zs zs':List Int} {bad bad':Bool} {p q:Nat} (h:CuR w u g C t zs bad p q) (k:Kept (· = p) u u') (c:IsCur u' p q zs' bad'):CuR w u' g C t zs' bad' p q :=
  ⟨k.blk h.i h.p1,c,h.p1,h.p2,h.b.trans ⟨k.os,k.tape,k.output,k.size,fun i hi=>k.block i (Nat.lt_of_lt_of_le hi h.b.size) (by have:=h.p2;omega)⟩⟩
theorem CuR.fresh {w u u':World} {g:Nat} {C:Array Value} {t:TypeId} {zs:List Int} {bad:Bool} {p q:Nat} (h:CuR w u g C t zs bad p q) (k:Below u.heap.size u u'):CuR w u' g C t zs bad p q :=
  ⟨Below.blk k h.i (blk_lt h.i),h.c.below k,h.p1,h.p2,h.b.trans (k.mono h.b.size)⟩
/-- How a stop's bytes are read. -/
def rdB1 (xs:List Int):Bool := !rawOk xs false 4
def rdS1 (xs:List Int):List Int:=rawS xs false 4
def rdB2 (xs:List Int):Bool := !rawOk (rdS1 xs) (rdB1 xs) 8
def rdS2 (xs:List Int):List Int:=rawS (rdS1 xs) (rdB1 xs) 8
def rdB3 (xs:List Int):Bool := !rawOk (rdS2 xs) (rdB2 xs) 64
def rdS3 (xs:List Int):List Int:=rawS (rdS2 xs) (rdB2 xs) 64
def rdH (xs:List Int):List Int:=rawV xs false 4
def rdI (xs:List Int):Int:=intV (rdS1 xs) (rdB1 xs)
def rdG (xs:List Int):List Int:=rawV (rdS2 xs) (rdB2 xs) 64
def rdE (xs:List Int):Bool := !rdB3 xs && decide ((rdS3 xs).length=0)
def rdOk (xs:List Int):Bool:=rdE xs && decide (rdH xs=[80,67,83,84]) && okI (rdI xs)
def readV (xs:List Int):Value:=if rdOk xs=true then .tuple #[.agg (stopC (rdI xs) (rdG xs)), .int .i64 0] else .tuple #[.agg (stopC 0 (List.replicate 64 0)), .int .i64 4]
theorem rdG_len {xs:List Int} (h:rdE xs=true):(rdG xs).length=64:=by
  simp only [rdE,rdB3,Bool.and_eq_true,Bool.not_not] at h
  obtain ⟨-, -, h2⟩:=rawOk_iff.1 h.1
  rw [rdG,rawV,if_pos h.1,List.length_take]
  omega
theorem raw_bytes {xs:List Int} (h:bytes xs) (bad:Bool) (n:Int):bytes (rawV xs bad n)∧bytes (rawS xs bad n):=by
  constructor
  · unfold rawV
    split
    · exact fun x hx=>h x (List.mem_of_mem_take hx)
    · exact fun x hx=>absurd hx (by simp)
  · unfold rawS
    split
    · exact fun x hx=>h x (List.mem_of_mem_drop hx)
    · split
      · exact h
      · exact fun x hx=>absurd hx (by simp)
theorem raw_len (xs:List Int) (bad:Bool) (n:Int):(rawS xs bad n).length≤xs.length:=by
  unfold rawS
  split
  · simp
  · split
    · exact Nat.le_refl _
    · simp
theorem str_cst:strOfNums [80,67,83,84]=PCST:=by rfl
theorem pcst_list:PCST.toList=[80,67,83,84]:=by decide +kernel
theorem readStop_any (sa:Option Addr) (n c:Nat) (xs:List Int) (w:World) (hs:Src w sa n xs) (hx:bytes xs) (hn:n≤1099511627776) :
    Calls Tryd.prog 32 #[.slice sa n c] w fun e w'=>e = .returned (readV xs)∧Below w.heap.size w w':=by
  have hxl:xs.length≤1099511627776:=by rw [hs.len];exact hn
  have hs0:=hs.below ((Below.refl _ w).alloc (Nat.le_refl _) (.cells (stopC 0 (List.replicate 64 0)) 52))
  have hcn:=fun (u:World) (h:Src u sa n xs)=>cnew_any sa n c xs u h hn
  have hl1:(rdS1 xs).length≤1099511627776:=Nat.le_trans (raw_len _ _ _) hxl
  have hl2:(rdS2 xs).length≤1099511627776:=Nat.le_trans (raw_len _ _ _) hl1
  have hw1:∀ u p q,CuR w u w.heap.size (stopC 0 (List.replicate 64 0)) 52 xs false p q→Calls Tryd.prog 41 #[.pointer (some ⟨p,0,none⟩), .int .i64 4] u fun e w'=>∃ v,e = .returned v∧(convert 24 9 v).run Tryd.prog w' = .ok (.string (strOfNums (rdH xs))) w'∧CuR w w' w.heap.size (stopC 0 (List.replicate 64 0)) 52 (rdS1 xs) (rdB1 xs) p q:=by
    intro u p q hu
    refine (craw_any p q xs false 4 u hu.c hxl).mono ?_
    rintro e w' ⟨v,rfl,ho,hc,hk⟩
    exact ⟨v,rfl,ho.str,hu.turn hk hc⟩
  have hw2:∀ u p q,CuR w u w.heap.size (stopC 0 (List.replicate 64 0)) 52 (rdS1 xs) (rdB1 xs) p q→Calls Tryd.prog 42 #[.pointer (some ⟨p,0,none⟩)] u fun e w'=>e = .returned (.int .i64 (rdI xs))∧CuR w w' w.heap.size (stopC 0 (List.replicate 64 0)) 52 (rdS2 xs) (rdB2 xs) p q:=by
    intro u p q hu
    refine (cint_any p q (rdS1 xs) (rdB1 xs) u hu.c hl1).mono ?_
    rintro e w' ⟨rfl,hc,hk⟩
    exact ⟨rfl,hu.turn hk hc⟩
  have hw3:∀ u p q,CuR w u w.heap.size (stopC 0 (List.replicate 64 0)) 52 (rdS2 xs) (rdB2 xs) p q→Calls Tryd.prog 41 #[.pointer (some ⟨p,0,none⟩), .int .i64 64] u fun e w'=>∃ s c,e = .returned (.slice s (rdG xs).length c)∧Own8 w' w.heap.size (.slice s (rdG xs).length c) (rdG xs)∧CuR w w' w.heap.size (stopC 0 (List.replicate 64 0)) 52 (rdS3 xs) (rdB3 xs) p q:=by
    intro u p q hu
    refine (craw_any p q (rdS2 xs) (rdB2 xs) 64 u hu.c hl2).mono ?_
    rintro e w' ⟨v,rfl,ho,hc,hk⟩
    obtain ⟨s,c,rfl, -⟩:=ho.form
    exact ⟨s,c,rfl,ho.mono hu.b.size,hu.turn hk hc⟩
  have hw4:∀ u p q,CuR w u w.heap.size (stopC 0 (List.replicate 64 0)) 52 (rdS3 xs) (rdB3 xs) p q→Calls Tryd.prog 45 #[.pointer (some ⟨p,0,none⟩)] u fun e w'=>e = .returned (.bool (rdE xs))∧u=w':=fun u p q hu=>cend_any p q _ _ u hu.c
  have hm:=fun u=>may_any (rdI xs) u
  have hgl := @rdG_len xs
  have hq:((strOfNums (rdH xs)).toList == [80,67,83,84])=decide (rdH xs=[80,67,83,84]):=by
    have h1:=Sm.str_eq (rdH xs) [80,67,83,84] (raw_bytes hx _ _).1 (by unfold bytes;decide)
    rwa [str_cst,pcst_list] at h1
  have hbl:=fun (h:(rdG xs).length=64)=>build_stop (rdI xs) (rdG xs) h
  unfold readV rdOk
  obtain ⟨zc,hzc⟩:∃ c,c=stopC 0 (List.replicate 64 0):=⟨_,rfl⟩
  have hzs:=stopC_size (id:=0) (gs:=List.replicate 64 0) (by simp)
  have hz1:=stopC_one 0 (List.replicate 64 0)
  have hz:=fun w=>zero_stop w
  have hz0:=fun w=>build_stop0 w
  rw [← hzc] at hzs hz1 hz hz0 hw1 hw2 hw3 hw4 hs0 ⊢
  obtain ⟨E,hE⟩:∃ x,x=rdE xs:=⟨_,rfl⟩
  rw [← hE] at hw4 hgl ⊢
  obtain ⟨H,hH⟩:∃ x,x=rdH xs:=⟨_,rfl⟩
  rw [← hH] at hw1 hq ⊢
  obtain ⟨id,hid⟩:∃ x,x=rdI xs:=⟨_,rfl⟩
  rw [← hid] at hw2 hm hbl ⊢
  obtain ⟨gs,hgs⟩:∃ x,x=rdG xs:=⟨_,rfl⟩
  rw [← hgs] at hw3 hgl hbl ⊢
  obtain ⟨SH,hSH⟩:∃ x,x=strOfNums H:=⟨_,rfl⟩
  rw [← hSH] at hw1 hq
  have HCN:=Lib.hid hcn
  have HW1:=Lib.hid hw1
  have HW2:=Lib.hid hw2
  have HW3:=Lib.hid hw3
  have HW4:=Lib.hid hw4
  have HS:=Lib.hid hs0
  have HZ:=Lib.hid hz
  have HZ0:=Lib.hid hz0
  have HZ1:=Lib.hid hz1
  have HIZ:Hid ((Tryd.prog.info? 52).map (·.size)=some zc.size):=Lib.hid (by rw [hzs];exact size_stop)
  have HBW:Hid (Below w.heap.size w (w.alloc (.cells zc 52))):=Lib.hid ((Below.refl _ w).alloc (Nat.le_refl _) _)
  have HI0:Hid ((w.alloc (.cells zc 52)).heap[w.heap.size]? = some (.cells zc 52 (0,0))):=Lib.hid (blk_new w _)
  have HSS:Hid (gs.length=64→(stopC id gs).size=zc.size):=Lib.hid (fun h=>by rw [stopC_size h,hzs])
  clear hcn hw1 hw2 hw3 hw4 hs0 hz hz0 hz1 hzs hs hx hn hxl hl1 hl2 hzc hH hid hgs hSH hE
  cases E with
  | false =>
    have HM:=Lib.hid hm
    clear hm hgl hbl HSS
    simp only [Bool.false_and,Bool.false_eq_true,if_false]
    go_enter Tryd.func32, Tryd.ntmps32
    go_upto_region 1 with ((with_reducible refine aS 2 ?_);refine wpList_alloc_row rfl 52 rfl _ (HZ.out _) ?_)
    generalize w.alloc (.cells zc 52)=wb at HBW HI0 HS ⊢
    go_upto_region 2 with (go_at_call 40; refine (HCN.out _ HS.out).mono ?_;rintro e w1 ⟨p,q,rfl,hc1,hp1,hq1,hb1⟩;have HR1:Hid (CuR w w1 w.heap.size zc 52 xs false p q):=Lib.hid ⟨Below.blk hb1 HI0.out (blk_lt HI0.out),hc1,(by have:=blk_lt HI0.out;omega),(by have:=blk_lt HI0.out;omega),HBW.out.trans (hb1.mono HBW.out.size)⟩;clear hc1 hp1 hq1 hb1)
    go_upto_region 3 with (go_at_call 41; refine (HW1.out _ _ _ HR1.out).mono ?_;rintro e w2 ⟨v2,rfl,hv2,hr2⟩;have HR2:=Lib.hid hr2;clear hr2)
    clear hv2
    go_upto_region 4 with (go_at_call 42; refine (HW2.out _ _ _ HR2.out).mono ?_;rintro e w3 ⟨rfl,hr3⟩;have HR3:=Lib.hid hr3;clear hr3)
    go_upto_region 5 with (go_at_call 41; refine (HW3.out _ _ _ HR3.out).mono ?_;rintro e w4 ⟨s4,c4,rfl,ho4,hr4⟩;have HR4:=Lib.hid hr4;have HO4:=Lib.hid ho4;clear hr4 ho4)
    go_wp2_with (first|((with_reducible show Calls _ 45 _ _ _);go_at_call 45; refine (HW4.out _ _ _ HR4.out).mono ?_;rintro e w5 ⟨rfl,rfl⟩)|((with_reducible show Calls _ 53 _ _ _);go_at_call 53; refine (HM.out _).mono ?_;rintro e w6 ⟨rfl,rfl⟩)|((with_reducible refine aS 29 ?_);refine wpList_build (by rfl) 52 _ rfl #[] rfl _ (HZ0.out _) ?_)|((with_reducible refine aT 2 ?_);refine wpList_store_whole rfl 52 _ _ rfl (w.heap.size) _ _ 52 HR4.out.i rfl rfl rfl HIZ.out HZ1.out ?_;intro w7 hb7 hk7 hz7;have HB7:=Lib.hid hb7;have HK7:=Lib.hid hk7;clear hb7 hk7 hz7))
    all_goals (try simp only [Exit.then])
    refine bodyPost_ret (results_cell_tmp_row rfl _ _ (w.heap.size) 52 _ (0,0) _ _ rfl HB7.out Tryd.underlying52 rfl HIZ.out rfl) rfl ?_
    exact ⟨by first|rfl|simp,HR4.out.b.trans ⟨HK7.out.os,HK7.out.tape,HK7.out.output,HK7.out.size,fun i hi=>HK7.out.block i (Nat.lt_of_lt_of_le hi HR4.out.b.size) (by omega)⟩⟩
  | true =>
   by_cases hH:H=[80,67,83,84]
   · rw [decide_eq_true hH] at hq ⊢
     clear hH
     cases hok:okI id with
     | false =>
      rw [hok] at hm
      have HM:=Lib.hid hm
      clear hm hgl hbl HSS
      simp only [Bool.and_false,Bool.false_eq_true,if_false]
      go_enter Tryd.func32, Tryd.ntmps32
      go_upto_region 1 with ((with_reducible refine aS 2 ?_);refine wpList_alloc_row rfl 52 rfl _ (HZ.out _) ?_)
      generalize w.alloc (.cells zc 52)=wb at HBW HI0 HS ⊢
      go_upto_region 2 with (go_at_call 40; refine (HCN.out _ HS.out).mono ?_;rintro e w1 ⟨p,q,rfl,hc1,hp1,hq1,hb1⟩;have HR1:Hid (CuR w w1 w.heap.size zc 52 xs false p q):=Lib.hid ⟨Below.blk hb1 HI0.out (blk_lt HI0.out),hc1,(by have:=blk_lt HI0.out;omega),(by have:=blk_lt HI0.out;omega),HBW.out.trans (hb1.mono HBW.out.size)⟩;clear hc1 hp1 hq1 hb1)
      go_upto_region 3 with (go_at_call 41; refine (HW1.out _ _ _ HR1.out).mono ?_;rintro e w2 ⟨v2,rfl,hv2,hr2⟩;have HR2:=Lib.hid hr2;clear hr2)
      clear hv2
      go_upto_region 4 with (go_at_call 42; refine (HW2.out _ _ _ HR2.out).mono ?_;rintro e w3 ⟨rfl,hr3⟩;have HR3:=Lib.hid hr3;clear hr3)
      go_upto_region 5 with (go_at_call 41; refine (HW3.out _ _ _ HR3.out).mono ?_;rintro e w4 ⟨s4,c4,rfl,ho4,hr4⟩;have HR4:=Lib.hid hr4;have HO4:=Lib.hid ho4;clear hr4 ho4)
      go_wp2_with (first|((with_reducible show Calls _ 45 _ _ _);go_at_call 45; refine (HW4.out _ _ _ HR4.out).mono ?_;rintro e w5 ⟨rfl,rfl⟩)|((with_reducible show Calls _ 53 _ _ _);go_at_call 53; refine (HM.out _).mono ?_;rintro e w6 ⟨rfl,rfl⟩)|((with_reducible refine aS 29 ?_);refine wpList_build (by rfl) 52 _ rfl #[] rfl _ (HZ0.out _) ?_)|((with_reducible refine aT 2 ?_);refine wpList_store_whole rfl 52 _ _ rfl (w.heap.size) _ _ 52 HR4.out.i rfl rfl rfl HIZ.out HZ1.out ?_;intro w7 hb7 hk7 hz7;have HB7:=Lib.hid hb7;have HK7:=Lib.hid hk7;clear hb7 hk7 hz7))
      all_goals (try simp only [Exit.then])
      refine bodyPost_ret (results_cell_tmp_row rfl _ _ (w.heap.size) 52 _ (0,0) _ _ rfl HB7.out Tryd.underlying52 rfl HIZ.out rfl) rfl ?_
      exact ⟨by first|rfl|simp,HR4.out.b.trans ⟨HK7.out.os,HK7.out.tape,HK7.out.output,HK7.out.size,fun i hi=>HK7.out.block i (Nat.lt_of_lt_of_le hi HR4.out.b.size) (by omega)⟩⟩
     | true =>
      rw [hok] at hm
      have HM:=Lib.hid hm
      have HGL:=Lib.hid (hgl rfl)
      have HBL:=Lib.hid (hbl HGL.out)
      have HSS:=Lib.hid (HSS.out HGL.out)
      have HS1:=Lib.hid (stopC_one id gs)
      have HIS:Hid ((Tryd.prog.info? 52).map (·.size)=some (stopC id gs).size):=Lib.hid (by rw [stopC_size HGL.out];exact size_stop)
      clear hm hgl hbl
      simp only [Bool.and_true,if_true]
      generalize stopC id gs=sc at HBL HSS HS1 HIS ⊢
      go_enter Tryd.func32, Tryd.ntmps32
      go_upto_region 1 with ((with_reducible refine aS 2 ?_);refine wpList_alloc_row rfl 52 rfl _ (HZ.out _) ?_)
      generalize w.alloc (.cells zc 52)=wb at HBW HI0 HS ⊢
      go_upto_region 2 with (go_at_call 40; refine (HCN.out _ HS.out).mono ?_;rintro e w1 ⟨p,q,rfl,hc1,hp1,hq1,hb1⟩;have HR1:Hid (CuR w w1 w.heap.size zc 52 xs false p q):=Lib.hid ⟨Below.blk hb1 HI0.out (blk_lt HI0.out),hc1,(by have:=blk_lt HI0.out;omega),(by have:=blk_lt HI0.out;omega),HBW.out.trans (hb1.mono HBW.out.size)⟩;clear hc1 hp1 hq1 hb1)
      go_upto_region 3 with (go_at_call 41; refine (HW1.out _ _ _ HR1.out).mono ?_;rintro e w2 ⟨v2,rfl,hv2,hr2⟩;have HR2:=Lib.hid hr2;clear hr2)
      clear hv2
      go_upto_region 4 with (go_at_call 42; refine (HW2.out _ _ _ HR2.out).mono ?_;rintro e w3 ⟨rfl,hr3⟩;have HR3:=Lib.hid hr3;clear hr3)
      go_upto_region 5 with (go_at_call 41; refine (HW3.out _ _ _ HR3.out).mono ?_;rintro e w4 ⟨s4,c4,rfl,ho4,hr4⟩;have HR4:=Lib.hid hr4;have HO4:=Lib.hid ho4;clear hr4 ho4)
      obtain ⟨sb,d,e4,hcc, -, hs4,hor⟩:=HO4.out.form
      obtain ⟨g4,rfl⟩:∃ g:Nat,s4=some ⟨g,0,none⟩:=by
        cases e4
        rcases hor with ⟨-, h0, -⟩|⟨g,rfl, -, -⟩
        · have:=HGL.out
          rw [h0] at this
          cases this
        · exact ⟨g,rfl⟩
      cases e4
      rw [HGL.out] at hs4
      have HS4:=Lib.hid hs4
      rw [HGL.out]
      clear hcc hs4 hor HO4
      go_wp2_with (first|((with_reducible show Calls _ 45 _ _ _);go_at_call 45; refine (HW4.out _ _ _ HR4.out).mono ?_;rintro e w5 ⟨rfl,rfl⟩)|((with_reducible show Calls _ 53 _ _ _);go_at_call 53; refine (HM.out _).mono ?_;rintro e w6 ⟨rfl,rfl⟩)|((with_reducible refine aS 32 ?_);refine wpList_s2a rfl 26 (.tmp 31) rfl (.slice (some ⟨g4,0,none⟩) 64 c4) (.pointer (some ⟨g4,0,none⟩)) rfl (by first|rfl|kernel_rfl) ?_)|((with_reducible refine aS 33 ?_);refine wpList_load_mid rfl 26 (.tmp 32) rfl g4 0 rfl (gs.map (Value.int .u8)) _ (cells_of HS4.out) Tryd.underlying26 rfl (by rw [List.length_map];exact Sl.sig_i HGL.out) ?_)|((with_reducible refine aS 34 ?_);refine wpList_build (by rfl) 52 _ rfl #[(0, .int .i64 id),(1, .agg (arr .u8 gs))] rfl _ (HBL.out _) ?_)|((with_reducible refine aT 2 ?_);refine wpList_store_whole rfl 52 _ _ rfl (w.heap.size) _ _ 52 HR4.out.i rfl rfl HSS.out HIS.out HS1.out ?_;intro w7 hb7 hk7 hz7;have HB7:=Lib.hid hb7;have HK7:=Lib.hid hk7;clear hb7 hk7 hz7))
      all_goals (try simp only [Exit.then])
      refine bodyPost_ret (results_cell_tmp_row rfl _ _ (w.heap.size) 52 _ (0,0) _ _ rfl HB7.out Tryd.underlying52 rfl HIS.out rfl) rfl ?_
      exact ⟨by first|rfl|simp,HR4.out.b.trans ⟨HK7.out.os,HK7.out.tape,HK7.out.output,HK7.out.size,fun i hi=>HK7.out.block i (Nat.lt_of_lt_of_le hi HR4.out.b.size) (by omega)⟩⟩
   · rw [decide_eq_false hH] at hq ⊢
     clear hH
     have HM:=Lib.hid hm
     clear hm hgl hbl HSS
     simp only [Bool.and_false,Bool.false_and,Bool.false_eq_true,if_false]
     go_enter Tryd.func32, Tryd.ntmps32
     go_upto_region 1 with ((with_reducible refine aS 2 ?_);refine wpList_alloc_row rfl 52 rfl _ (HZ.out _) ?_)
     generalize w.alloc (.cells zc 52)=wb at HBW HI0 HS ⊢
     go_upto_region 2 with (go_at_call 40; refine (HCN.out _ HS.out).mono ?_;rintro e w1 ⟨p,q,rfl,hc1,hp1,hq1,hb1⟩;have HR1:Hid (CuR w w1 w.heap.size zc 52 xs false p q):=Lib.hid ⟨Below.blk hb1 HI0.out (blk_lt HI0.out),hc1,(by have:=blk_lt HI0.out;omega),(by have:=blk_lt HI0.out;omega),HBW.out.trans (hb1.mono HBW.out.size)⟩;clear hc1 hp1 hq1 hb1)
     go_upto_region 3 with (go_at_call 41; refine (HW1.out _ _ _ HR1.out).mono ?_;rintro e w2 ⟨v2,rfl,hv2,hr2⟩;have HR2:=Lib.hid hr2;clear hr2)
     clear hv2
     go_upto_region 4 with (go_at_call 42; refine (HW2.out _ _ _ HR2.out).mono ?_;rintro e w3 ⟨rfl,hr3⟩;have HR3:=Lib.hid hr3;clear hr3)
     go_upto_region 5 with (go_at_call 41; refine (HW3.out _ _ _ HR3.out).mono ?_;rintro e w4 ⟨s4,c4,rfl,ho4,hr4⟩;have HR4:=Lib.hid hr4;have HO4:=Lib.hid ho4;clear hr4 ho4)
     go_wp2_with (first|((with_reducible show Calls _ 45 _ _ _);go_at_call 45; refine (HW4.out _ _ _ HR4.out).mono ?_;rintro e w5 ⟨rfl,rfl⟩)|((with_reducible show Calls _ 53 _ _ _);go_at_call 53; refine (HM.out _).mono ?_;rintro e w6 ⟨rfl,rfl⟩)|((with_reducible refine aS 29 ?_);refine wpList_build (by rfl) 52 _ rfl #[] rfl _ (HZ0.out _) ?_)|((with_reducible refine aT 2 ?_);refine wpList_store_whole rfl 52 _ _ rfl (w.heap.size) _ _ 52 HR4.out.i rfl rfl rfl HIZ.out HZ1.out ?_;intro w7 hb7 hk7 hz7;have HB7:=Lib.hid hb7;have HK7:=Lib.hid hk7;clear hb7 hk7 hz7))
     all_goals (try simp only [Exit.then])
     refine bodyPost_ret (results_cell_tmp_row rfl _ _ (w.heap.size) 52 _ (0,0) _ _ rfl HB7.out Tryd.underlying52 rfl HIZ.out rfl) rfl ?_
     exact ⟨by first|rfl|simp,HR4.out.b.trans ⟨HK7.out.os,HK7.out.tape,HK7.out.output,HK7.out.size,fun i hi=>HK7.out.block i (Nat.lt_of_lt_of_le hi HR4.out.b.size) (by omega)⟩⟩
end Go.Proofs.YtodnkallpfkdiaaDoor.Ce
