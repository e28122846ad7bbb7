/- The document's root: what it answers. Condition: as each theorem says. -/
import Derived.Test.YtodnkallpfkdiaaDoorRd
import Derived.Test.YtodnkallpfkdiaaDoorCa
import Derived.Test.YtodnkallpfkdiaaDoorFa
import Derived.Test.YtodnkallpfkdiaaDoorMa
import Derived.Test.YtodnkallpfkdiaaDoorSy
set_option maxRecDepth 100000
set_option maxHeartbeats 16000000
set_option linter.unusedSimpArgs false
set_option linter.unusedVariables false
namespace Go.Proofs.YtodnkallpfkdiaaDoor.Rd
open Go.RowKit Lm Fp
def imL:List Int:=[0xa0b0,0x4a0e,0x1b27,0xc4ee,0xe478,0xad2f,0x1806,0x2f43,0xd7a7,0x3dfb,0x99,0x2b4d,0xdf0b,0x4fc1,0x2480,0x2b83]
theorem imL_el:El imL im:=by refine ⟨rfl,by decide +kernel,by decide +kernel⟩
/-- The table's numbers. -/
def TabI (w:World):Prop:=w.rangeAt 6 0 (imL.map (Value.int .i64))
theorem range_below {a b:World} {g o:Nat} {xs:List Value} (h:a.rangeAt g o xs) (k:Below a.heap.size a b):b.rangeAt g o xs:=range_kept h (Kept.of_below k (T:=fun _=>False)) id
theorem range_lt {a:World} {g o:Nat} {x:Value} {xs:List Value} (h:a.rangeAt g o (x :: xs)):g < a.heap.size:=World.block_lt_of_cell? _ _ (h 0 x rfl)
theorem root_any (xs:List Int) (a:Nat) (w:World) (hx:El xs a) (hT:TabI w) :
  Calls Tryd.prog 105 #[.agg (arr .i64 xs)] w fun e w'=>∃ zs,e = .returned (.tuple #[.agg (arr .i64 zs), .bool (rsqrt a).2])∧El zs (rsqrt a).1∧Below w.heap.size w w':=by
 have hm:=eighth_any
 have hp:=fun w=>pow_any xs a eighth w hx
 obtain ⟨es,hes⟩:∃ x,x=nar (dig 256 32 eighth):=⟨_,rfl⟩
 rw [← hes] at hm hp
 have HEL:Hid (es.length=32):=Lib.hid (by rw [hes,nar_len,dig_len])
 obtain ⟨iL,hiL⟩:∃ x,x=imL:=⟨_,rfl⟩
 have HI:Hid (El iL im):=Lib.hid (by rw [hiL];exact imL_el)
 have HIL:=Lib.hid HI.out.1
 unfold TabI at hT
 rw [← hiL] at hT
 have HT:=Lib.hid hT
 have HGL:Hid (6 < w.heap.size):=Lib.hid (by rw [hiL] at hT;exact range_lt hT)
 obtain ⟨x0,hx0⟩:∃ x,x=fpow a eighth 256:=⟨_,rfl⟩
 rw [← hx0] at hp
 have hrs:rsqrt a=if fmul x0 x0=a then (x0,true) else (fmul x0 im,decide (fmul (fmul x0 im) (fmul x0 im)=a)):=by rw [hx0];rfl
 have HRS:=Lib.hid hrs
 obtain ⟨ze,hze⟩:∃ zs:List Int,zs=List.replicate 16 0:=⟨_,rfl⟩
 have HZze:Hid (∀ w,(zeroValue 100).run Tryd.prog w = .ok (.agg (arr .i64 ze)) w):=Lib.hid (by intro w;rw [hze];exact zero_el w)
 have HLze:Hid (ze.length=16):=Lib.hid (by rw [hze];rfl)
 have HM:=Lib.hid hm
 have HP:=Lib.hid hp
 have HX:=Lib.hid hx
 have HXL:=Lib.hid hx.1
 have HS0:=Lib.hid (Blk.two w (arr .i64 xs) (arr .i64 ze) 100 100)
 clear hze hes hx hm hp hiL hT hx0 hrs
 go_enter Tryd.func105, Tryd.ntmps105
 go_upto_region 1 with (first|((with_reducible refine aS 2 ?_);refine wpList_alloc_row rfl 100 rfl _ (HZze.out _) ?_))
 generalize ((w.alloc (.cells (arr .i64 xs) 100)).alloc (.cells (arr .i64 ze) 100))=wb at HS0 ⊢
 go_cut [4] (fun u4 wx=>∃ g x1,u4 = .pointer (some ⟨g,0,none⟩)∧El x1 x0∧Blk w wx [(w.heap.size,arr .i64 xs, 100),(w.heap.size+1,arr .i64 ze, 100),(g,arr .i64 x1, 100)])
 case first =>
  have HK0:=Lib.hid ((Kept.refl (fun _=>False) wb).drew)
  have HBd:=Lib.hid (HS0.out.drew)
  refine wp_region_held_drew (S:=(fun w'=>Kept (fun _=>False) wb w')) (by kernel_rfl) (HK0.out) (fun hHeld=>?_)
  generalize wb.drew=wd at HK0 HBd hHeld ⊢
  refine' wpAnyH_take (i:=0) (oi:=(⟨some 5,_,_,_,_,none⟩:Oper)) (v:=_) rfl (by kernel_rfl) (by kernel_rfl) (by kernel_rfl) (fun _ _ _ h=>h) (yieldsIf_load_mid (by rfl) _ _ rfl _ _ rfl (xs.map (Value.int .i64)) _ ?hS101 Tryd.underlying100 rfl (by rw [List.length_map];exact el_i HXL.out)) (by assumption) ?rest101
  case hS101=>(intro w hSw;(try dsimp only at hSw);exact range_part (hSw.blk (HS0.out.get 0 rfl) (fun e=>e.elim)) 0 _ (by rw [List.length_map];exact arr_part _ _))
  (try simp only [Act.put,sA,sZ,sS])
  refine wpAnyH_ready (rs:=[1,3]) (by kernel_rfl) (by simp) ?_
  refine AllReadyH.cons (o:=(⟨some 6,_,_,_,_,none⟩:Oper)) rfl (fun K hK=>?_) ?_
  ·go_simp
   go_at_call 142
   refine (HM.out _).mono ?_
   rintro e w102 ⟨rfl,hb102⟩
   have HB102:=Lib.hid (HBd.out.kept hb102)
   have HK102:=Lib.hid (HK0.out.trans (Kept.of_below hb102))
   clear hb102
   (try dsimp only)
   refine hK.out _ _ (HK102.out) (fun hHeld=>?_)
   clear hK K
   (try simp only [Act.put,sA,sZ,sS])
   refine wpAnyH_ready (rs:=[2,3]) (by kernel_rfl) (by simp) ?_
   refine AllReadyH.cons (o:=(⟨some 7,_,_,_,_,none⟩:Oper)) rfl (fun K hK=>?_) ?_
   ·go_simp
    go_at_call 139
    refine (HP.out _).mono ?_
    rintro e w103 ⟨z103,rfl,h103,hb103⟩
    have HZ103:=Lib.hid h103
    have HL103:=Lib.hid h103.1
    clear h103
    have HB103:=Lib.hid (HB102.out.kept hb103)
    have HK103:=Lib.hid (HK102.out.trans (Kept.of_below hb103))
    clear hb103
    (try dsimp only)
    refine hK.out _ _ (HK103.out) (fun hHeld=>?_)
    clear hK K
    (try simp only [Act.put,sA,sZ,sS])
    refine wpAnyH_ready (rs:=[3]) (by kernel_rfl) (by simp) ?_
    refine AllReadyH.cons (o:=(⟨some 4,_,_,_,_,none⟩:Oper)) rfl (fun K hK=>?_) AllReadyH.nil
    refine step_alloc_row rfl 100 rfl _ (HZze.out _) ?_
    have HB104:=Lib.hid (HB103.out.alloc (arr .i64 ze) 100)
    have HK104:=Lib.hid (HK103.out.alloc (.cells (arr .i64 ze) 100))
    have HN104:=Lib.hid (show wb.heap.size≤(w103).heap.size from HK103.out.size)
    generalize (w103).heap.size=g104 at HB104 HN104 ⊢
    generalize (w103).alloc (.cells (arr .i64 ze) 100)=w104 at HB104 HK104 ⊢
    refine hK.out _ _ (HK104.out) (fun hHeld=>?_)
    clear hK K
    (try simp only [Act.put,sA,sZ,sS])
    refine wpAnyH_ready (rs:=[4]) (by kernel_rfl) (by simp) ?_
    refine AllReadyH.cons (o:=(⟨none,_,_,_,_,none⟩:Oper)) rfl (fun K hK=>?_) AllReadyH.nil
    refine step_store_whole rfl 100 (.tmp 4) (.tmp 7) rfl (g104) _ _ _ (HB104.out.get 2 rfl) rfl rfl (arr_len2 _ _ HL103.out HLze.out) (el_s HL103.out) (all_arr _ _) ?_
    intro w105 hb105 hk105 hz105
    have HB105:=Lib.hid (HB104.out.put 2 rfl hk105 hb105)
    have HK105:=Lib.hid (HK104.out.trans_new hk105 (fun i hi e=>absurd hi (by rw [e];exact Nat.not_lt.2 HN104.out)))
    clear hb105 hk105 hz105
    refine hK.out _ _ (HK105.out) (fun hHeld=>?_)
    clear hK K
    (try simp only [Act.put])
    refine wpAnyH_done (by kernel_rfl) ?_ _
    go_wp2_with fail
    go_meet
    exact ⟨_,_,rfl,HZ103.out,HB105.out⟩
   refine AllReadyH.cons (o:=(⟨some 4,_,_,_,_,none⟩:Oper)) rfl (fun K hK=>?_) ?_
   ·refine step_alloc_row rfl 100 rfl _ (HZze.out _) ?_
    have HB106:=Lib.hid (HB102.out.alloc (arr .i64 ze) 100)
    have HK106:=Lib.hid (HK102.out.alloc (.cells (arr .i64 ze) 100))
    have HN106:=Lib.hid (show wb.heap.size≤(w102).heap.size from HK102.out.size)
    generalize (w102).heap.size=g106 at HB106 HN106 ⊢
    generalize (w102).alloc (.cells (arr .i64 ze) 100)=w106 at HB106 HK106 ⊢
    refine hK.out _ _ (HK106.out) (fun hHeld=>?_)
    clear hK K
    (try simp only [Act.put,sA,sZ,sS])
    refine wpAnyH_ready (rs:=[2]) (by kernel_rfl) (by simp) ?_
    refine AllReadyH.cons (o:=(⟨some 7,_,_,_,_,none⟩:Oper)) rfl (fun K hK=>?_) AllReadyH.nil
    go_simp
    go_at_call 139
    refine (HP.out _).mono ?_
    rintro e w107 ⟨z107,rfl,h107,hb107⟩
    have HZ107:=Lib.hid h107
    have HL107:=Lib.hid h107.1
    clear h107
    have HB107:=Lib.hid (HB106.out.kept hb107)
    have HK107:=Lib.hid (HK106.out.trans (Kept.of_below hb107))
    clear hb107
    (try dsimp only)
    refine hK.out _ _ (HK107.out) (fun hHeld=>?_)
    clear hK K
    (try simp only [Act.put,sA,sZ,sS])
    refine wpAnyH_ready (rs:=[4]) (by kernel_rfl) (by simp) ?_
    refine AllReadyH.cons (o:=(⟨none,_,_,_,_,none⟩:Oper)) rfl (fun K hK=>?_) AllReadyH.nil
    refine step_store_whole rfl 100 (.tmp 4) (.tmp 7) rfl (g106) _ _ _ (HB107.out.get 2 rfl) rfl rfl (arr_len2 _ _ HL107.out HLze.out) (el_s HL107.out) (all_arr _ _) ?_
    intro w108 hb108 hk108 hz108
    have HB108:=Lib.hid (HB107.out.put 2 rfl hk108 hb108)
    have HK108:=Lib.hid (HK107.out.trans_new hk108 (fun i hi e=>absurd hi (by rw [e];exact Nat.not_lt.2 HN106.out)))
    clear hb108 hk108 hz108
    refine hK.out _ _ (HK108.out) (fun hHeld=>?_)
    clear hK K
    (try simp only [Act.put])
    refine wpAnyH_done (by kernel_rfl) ?_ _
    go_wp2_with fail
    go_meet
    exact ⟨_,_,rfl,HZ107.out,HB108.out⟩
   exact AllReadyH.nil
  refine AllReadyH.cons (o:=(⟨some 4,_,_,_,_,none⟩:Oper)) rfl (fun K hK=>?_) ?_
  ·refine step_alloc_row rfl 100 rfl _ (HZze.out _) ?_
   have HB109:=Lib.hid (HBd.out.alloc (arr .i64 ze) 100)
   have HK109:=Lib.hid (HK0.out.alloc (.cells (arr .i64 ze) 100))
   have HN109:=Lib.hid (show wb.heap.size≤(wd).heap.size from HK0.out.size)
   generalize (wd).heap.size=g109 at HB109 HN109 ⊢
   generalize (wd).alloc (.cells (arr .i64 ze) 100)=w109 at HB109 HK109 ⊢
   refine hK.out _ _ (HK109.out) (fun hHeld=>?_)
   clear hK K
   (try simp only [Act.put,sA,sZ,sS])
   refine wpAnyH_ready (rs:=[1]) (by kernel_rfl) (by simp) ?_
   refine AllReadyH.cons (o:=(⟨some 6,_,_,_,_,none⟩:Oper)) rfl (fun K hK=>?_) AllReadyH.nil
   go_simp
   go_at_call 142
   refine (HM.out _).mono ?_
   rintro e w110 ⟨rfl,hb110⟩
   have HB110:=Lib.hid (HB109.out.kept hb110)
   have HK110:=Lib.hid (HK109.out.trans (Kept.of_below hb110))
   clear hb110
   (try dsimp only)
   refine hK.out _ _ (HK110.out) (fun hHeld=>?_)
   clear hK K
   (try simp only [Act.put,sA,sZ,sS])
   refine wpAnyH_ready (rs:=[2]) (by kernel_rfl) (by simp) ?_
   refine AllReadyH.cons (o:=(⟨some 7,_,_,_,_,none⟩:Oper)) rfl (fun K hK=>?_) AllReadyH.nil
   go_simp
   go_at_call 139
   refine (HP.out _).mono ?_
   rintro e w111 ⟨z111,rfl,h111,hb111⟩
   have HZ111:=Lib.hid h111
   have HL111:=Lib.hid h111.1
   clear h111
   have HB111:=Lib.hid (HB110.out.kept hb111)
   have HK111:=Lib.hid (HK110.out.trans (Kept.of_below hb111))
   clear hb111
   (try dsimp only)
   refine hK.out _ _ (HK111.out) (fun hHeld=>?_)
   clear hK K
   (try simp only [Act.put,sA,sZ,sS])
   refine wpAnyH_ready (rs:=[4]) (by kernel_rfl) (by simp) ?_
   refine AllReadyH.cons (o:=(⟨none,_,_,_,_,none⟩:Oper)) rfl (fun K hK=>?_) AllReadyH.nil
   refine step_store_whole rfl 100 (.tmp 4) (.tmp 7) rfl (g109) _ _ _ (HB111.out.get 2 rfl) rfl rfl (arr_len2 _ _ HL111.out HLze.out) (el_s HL111.out) (all_arr _ _) ?_
   intro w112 hb112 hk112 hz112
   have HB112:=Lib.hid (HB111.out.put 2 rfl hk112 hb112)
   have HK112:=Lib.hid (HK111.out.trans_new hk112 (fun i hi e=>absurd hi (by rw [e];exact Nat.not_lt.2 HN109.out)))
   clear hb112 hk112 hz112
   refine hK.out _ _ (HK112.out) (fun hHeld=>?_)
   clear hK K
   (try simp only [Act.put])
   refine wpAnyH_done (by kernel_rfl) ?_ _
   go_wp2_with fail
   go_meet
   exact ⟨_,_,rfl,HZ111.out,HB112.out⟩
  exact AllReadyH.nil
 case rest =>
 obtain ⟨wy,rfl⟩:∃ x:World,x=wc:=⟨_,rfl⟩
 obtain ⟨gx,x1,rfl,h1,hb1⟩:=hcut
 have HB1:=Lib.hid hb1
 have HX1:=Lib.hid h1
 have HL1:=Lib.hid h1.1
 clear h1 hb1 HS0
 go_upto_region 2 with fail
 by_cases hs:fmul x0 x0=a
 ·have HSM:=Lib.hid (fun xs ys w h1 h2=>(by have:=same_any xs ys (fmul x0 x0) a w h1 h2;rw [decide_eq_true hs] at this;exact this:Calls Tryd.prog 143 #[.agg (arr .i64 xs), .agg (arr .i64 ys)] w fun e w'=>e = .returned (.bool true)∧Below w.heap.size w w'))
  have hr:=HRS.out
  rw [if_pos hs] at hr
  have HR:=Lib.hid hr
  clear hs hr
  have HK0:=Lib.hid ((Kept.refl (fun _=>False) wy).drew)
  have HBd:=Lib.hid (HB1.out.drew)
  refine wp_region_held_drew (S:=(fun w'=>Kept (fun _=>False) wy w')) (by kernel_rfl) (HK0.out) (fun hHeld=>?_)
  generalize wy.drew=wd at HK0 HBd hHeld ⊢
  refine' wpAnyH_take (i:=0) (oi:=(⟨some 8,_,_,_,_,none⟩:Oper)) (v:=_) rfl (by kernel_rfl) (by kernel_rfl) (by kernel_rfl) (fun _ _ _ h=>h) (yieldsIf_load_mid (by rfl) _ _ rfl _ _ rfl (x1.map (Value.int .i64)) _ ?hS113 Tryd.underlying100 rfl (by rw [List.length_map];exact el_i HL1.out)) (by assumption) ?rest113
  case hS113=>(intro w hSw;(try dsimp only at hSw);exact range_part (hSw.blk (HB1.out.get 2 rfl) (fun e=>e.elim)) 0 _ (by rw [List.length_map];exact arr_part _ _))
  (try simp only [Act.put,sA,sZ,sS])
  refine' wpAnyH_take (i:=1) (oi:=(⟨some 9,_,_,_,_,none⟩:Oper)) (v:=_) rfl (by kernel_rfl) (by kernel_rfl) (by kernel_rfl) (fun _ _ _ h=>h) (yieldsIf_load_mid (by rfl) _ _ rfl _ _ rfl (x1.map (Value.int .i64)) _ ?hS114 Tryd.underlying100 rfl (by rw [List.length_map];exact el_i HL1.out)) (by assumption) ?rest114
  case hS114=>(intro w hSw;(try dsimp only at hSw);exact range_part (hSw.blk (HB1.out.get 2 rfl) (fun e=>e.elim)) 0 _ (by rw [List.length_map];exact arr_part _ _))
  (try simp only [Act.put,sA,sZ,sS])
  refine' wpAnyH_take (i:=3) (oi:=(⟨some 11,_,_,_,_,none⟩:Oper)) (v:=_) rfl (by kernel_rfl) (by kernel_rfl) (by kernel_rfl) (fun _ _ _ h=>h) (yieldsIf_load_mid (by rfl) _ _ rfl _ _ rfl (xs.map (Value.int .i64)) _ ?hS115 Tryd.underlying100 rfl (by rw [List.length_map];exact el_i HXL.out)) (by assumption) ?rest115
  case hS115=>(intro w hSw;(try dsimp only at hSw);exact range_part (hSw.blk (HB1.out.get 0 rfl) (fun e=>e.elim)) 0 _ (by rw [List.length_map];exact arr_part _ _))
  (try simp only [Act.put,sA,sZ,sS])
  refine wpAnyH_ready (rs:=[2]) (by kernel_rfl) (by simp) ?_
  refine AllReadyH.cons (o:=(⟨some 10,_,_,_,_,none⟩:Oper)) rfl (fun K hK=>?_) AllReadyH.nil
  go_simp
  go_at_call 98
  refine (mul_any _ _ _ _ _ HX1.out HX1.out).mono ?_
  rintro e w116 ⟨z116,rfl,h116,hb116⟩
  have HZ116:=Lib.hid h116
  have HL116:=Lib.hid h116.1
  clear h116
  have HB116:=Lib.hid (HBd.out.kept hb116)
  have HK116:=Lib.hid (HK0.out.trans (Kept.of_below hb116))
  clear hb116
  (try dsimp only)
  refine hK.out _ _ (HK116.out) (fun hHeld=>?_)
  clear hK K
  (try simp only [Act.put,sA,sZ,sS])
  refine wpAnyH_ready (rs:=[4]) (by kernel_rfl) (by simp) ?_
  refine AllReadyH.cons (o:=(⟨some 12,_,_,_,_,none⟩:Oper)) rfl (fun K hK=>?_) AllReadyH.nil
  go_simp
  go_at_call 143
  refine (HSM.out _ _ _ HZ116.out HX.out).mono ?_
  rintro e w117 ⟨rfl,hb117⟩
  have HB117:=Lib.hid (HB116.out.kept hb117)
  have HK117:=Lib.hid (HK116.out.trans (Kept.of_below hb117))
  clear hb117
  (try dsimp only)
  refine hK.out _ _ (HK117.out) (fun hHeld=>?_)
  clear hK K
  (try simp only [Act.put,sA,sZ,sS])
  refine wpAnyH_done (by kernel_rfl) ?_ _
  have HBF:=HB117
  clear HB1
  (try simp only [Exit.then])
  go_wp2_with (first|((with_reducible refine aS 13 ?_);refine wpList_load_part rfl 100 _ rfl (gx) 0 _ 100 (0,0) _ (HBF.out.get 2 rfl) rfl .i64 x1 (arr_part _ _) Tryd.underlying100 rfl (el_i HL1.out) ?_)|((with_reducible refine aT 2 ?_);refine wpList_store_whole rfl 100 _ _ rfl (w.heap.size+1) _ _ 100 (HBF.out.get 1 rfl) rfl rfl (arr_len2 _ _ HL1.out HLze.out) (el_s HL1.out) (all_arr _ _) ?_;intro w8 hb8 hk8 hz8;have HB8:=Lib.hid (HBF.out.put 1 rfl hk8 hb8);clear hb8 hk8 hz8))
  (try simp only [Exit.inBlock,Exit.then])
  refine bodyPost_ret (results_cell_tmp_row rfl _ _ (w.heap.size+1) 100 _ (0,0) _ _ rfl (HB8.out.get 1 rfl) Tryd.underlying100 rfl (el_s HL1.out) rfl) rfl ?_
  refine ⟨_,?_,by rw [HR.out];exact HX1.out,HB8.out.below⟩
  rw [HR.out];rfl
 ·have HSM:=Lib.hid (fun xs ys w h1 h2=>(by have:=same_any xs ys (fmul x0 x0) a w h1 h2;rw [decide_eq_false hs] at this;exact this:Calls Tryd.prog 143 #[.agg (arr .i64 xs), .agg (arr .i64 ys)] w fun e w'=>e = .returned (.bool false)∧Below w.heap.size w w'))
  have hr:=HRS.out
  rw [if_neg hs] at hr
  have HR:=Lib.hid hr
  clear hs hr
  have HK0:=Lib.hid ((Kept.refl (fun _=>False) wy).drew)
  have HBd:=Lib.hid (HB1.out.drew)
  refine wp_region_held_drew (S:=(fun w'=>Kept (fun _=>False) wy w')) (by kernel_rfl) (HK0.out) (fun hHeld=>?_)
  generalize wy.drew=wd at HK0 HBd hHeld ⊢
  refine' wpAnyH_take (i:=0) (oi:=(⟨some 8,_,_,_,_,none⟩:Oper)) (v:=_) rfl (by kernel_rfl) (by kernel_rfl) (by kernel_rfl) (fun _ _ _ h=>h) (yieldsIf_load_mid (by rfl) _ _ rfl _ _ rfl (x1.map (Value.int .i64)) _ ?hS118 Tryd.underlying100 rfl (by rw [List.length_map];exact el_i HL1.out)) (by assumption) ?rest118
  case hS118=>(intro w hSw;(try dsimp only at hSw);exact range_part (hSw.blk (HB1.out.get 2 rfl) (fun e=>e.elim)) 0 _ (by rw [List.length_map];exact arr_part _ _))
  (try simp only [Act.put,sA,sZ,sS])
  refine' wpAnyH_take (i:=1) (oi:=(⟨some 9,_,_,_,_,none⟩:Oper)) (v:=_) rfl (by kernel_rfl) (by kernel_rfl) (by kernel_rfl) (fun _ _ _ h=>h) (yieldsIf_load_mid (by rfl) _ _ rfl _ _ rfl (x1.map (Value.int .i64)) _ ?hS119 Tryd.underlying100 rfl (by rw [List.length_map];exact el_i HL1.out)) (by assumption) ?rest119
  case hS119=>(intro w hSw;(try dsimp only at hSw);exact range_part (hSw.blk (HB1.out.get 2 rfl) (fun e=>e.elim)) 0 _ (by rw [List.length_map];exact arr_part _ _))
  (try simp only [Act.put,sA,sZ,sS])
  refine' wpAnyH_take (i:=3) (oi:=(⟨some 11,_,_,_,_,none⟩:Oper)) (v:=_) rfl (by kernel_rfl) (by kernel_rfl) (by kernel_rfl) (fun _ _ _ h=>h) (yieldsIf_load_mid (by rfl) _ _ rfl _ _ rfl (xs.map (Value.int .i64)) _ ?hS120 Tryd.underlying100 rfl (by rw [List.length_map];exact el_i HXL.out)) (by assumption) ?rest120
  case hS120=>(intro w hSw;(try dsimp only at hSw);exact range_part (hSw.blk (HB1.out.get 0 rfl) (fun e=>e.elim)) 0 _ (by rw [List.length_map];exact arr_part _ _))
  (try simp only [Act.put,sA,sZ,sS])
  refine wpAnyH_ready (rs:=[2]) (by kernel_rfl) (by simp) ?_
  refine AllReadyH.cons (o:=(⟨some 10,_,_,_,_,none⟩:Oper)) rfl (fun K hK=>?_) AllReadyH.nil
  go_simp
  go_at_call 98
  refine (mul_any _ _ _ _ _ HX1.out HX1.out).mono ?_
  rintro e w121 ⟨z121,rfl,h121,hb121⟩
  have HZ121:=Lib.hid h121
  have HL121:=Lib.hid h121.1
  clear h121
  have HB121:=Lib.hid (HBd.out.kept hb121)
  have HK121:=Lib.hid (HK0.out.trans (Kept.of_below hb121))
  clear hb121
  (try dsimp only)
  refine hK.out _ _ (HK121.out) (fun hHeld=>?_)
  clear hK K
  (try simp only [Act.put,sA,sZ,sS])
  refine wpAnyH_ready (rs:=[4]) (by kernel_rfl) (by simp) ?_
  refine AllReadyH.cons (o:=(⟨some 12,_,_,_,_,none⟩:Oper)) rfl (fun K hK=>?_) AllReadyH.nil
  go_simp
  go_at_call 143
  refine (HSM.out _ _ _ HZ121.out HX.out).mono ?_
  rintro e w122 ⟨rfl,hb122⟩
  have HB122:=Lib.hid (HB121.out.kept hb122)
  have HK122:=Lib.hid (HK121.out.trans (Kept.of_below hb122))
  clear hb122
  (try dsimp only)
  refine hK.out _ _ (HK122.out) (fun hHeld=>?_)
  clear hK K
  (try simp only [Act.put,sA,sZ,sS])
  refine wpAnyH_done (by kernel_rfl) ?_ _
  have HBF:=HB122
  clear HB1
  (try simp only [Exit.then])
  have HTb:=Lib.hid (range_below HT.out HBF.out.below)
  obtain ⟨bb,hbb⟩:∃ b,b=decide (fmul (fmul x0 im) (fmul x0 im)=a):=⟨_,rfl⟩
  rw [← hbb] at HR
  have HSM2:=Lib.hid (fun xs ys w h1 h2=>(by have:=same_any xs ys (fmul (fmul x0 im) (fmul x0 im)) a w h1 h2;rw [← hbb] at this;exact this:Calls Tryd.prog 143 #[.agg (arr .i64 xs), .agg (arr .i64 ys)] w fun e w'=>e = .returned (.bool bb)∧Below w.heap.size w w'))
  clear hbb
  go_upto_region 5 with (first|((with_reducible refine aS 14 ?_);refine wpList_load_part rfl 100 _ rfl (gx) (0) _ 100 (0,0) _ (HBF.out.get 2 rfl) rfl .i64 x1 (arr_part _ _) Tryd.underlying100 rfl (el_i HL1.out) ?_)|((with_reducible refine aS 15 ?_);refine wpList_load_mid rfl 100 _ rfl 6 0 rfl (iL.map (Value.int .i64)) _ (HTb.out) Tryd.underlying100 rfl (by rw [List.length_map];exact el_i HIL.out) ?_;(try (show wpList _ _ _ _ (Act.put _ _ (.agg (arr .i64 iL))) _)))|((with_reducible show Calls _ 98 #[.agg _, .agg _] _ _);go_at_call 98; refine (mul_any _ _ _ _ _ HX1.out HI.out).mono ?_;rintro e w123 ⟨z123,rfl,h123,hb123⟩;have HZ123:=Lib.hid h123;have HL123:=Lib.hid h123.1;clear h123;have HB123:=Lib.hid (HBF.out.kept hb123);clear hb123)|((with_reducible refine aT 4 (x:=(Operand.tmp 16)) ?_);refine wpList_store_whole rfl 100 _ _ rfl (gx) _ _ 100 (HB123.out.get 2 rfl) rfl rfl (arr_len2 _ _ HL123.out HL1.out) (el_s HL123.out) (all_arr _ _) ?_;intro w124 hb124 hk124 hz124;have HB124:=Lib.hid (HB123.out.put 2 rfl hk124 hb124);clear hb124 hk124 hz124))
  have HK0:=Lib.hid ((Kept.refl (fun x=>x=w.heap.size+1) w124).drew)
  have HBd:=Lib.hid (HB124.out.drew)
  refine wp_region_held_drew (S:=(fun w'=>Kept (fun x=>x=w.heap.size+1) w124 w')) (by kernel_rfl) (HK0.out) (fun hHeld=>?_)
  generalize w124.drew=wd at HK0 HBd hHeld ⊢
  refine' wpAnyH_take (i:=0) (oi:=(⟨some 17,_,_,_,_,none⟩:Oper)) (v:=_) rfl (by kernel_rfl) (by kernel_rfl) (by kernel_rfl) (fun _ _ _ h=>h) (yieldsIf_load_mid (by rfl) _ _ rfl _ _ rfl (z123.map (Value.int .i64)) _ ?hS125 Tryd.underlying100 rfl (by rw [List.length_map];exact el_i HL123.out)) (by assumption) ?rest125
  case hS125=>(intro w hSw;(try dsimp only at hSw);exact range_part (hSw.blk (HB124.out.get 2 rfl) (HB124.out.ne 2 1 rfl rfl (by decide))) 0 _ (by rw [List.length_map];exact arr_part _ _))
  (try simp only [Act.put,sA,sZ,sS])
  refine' wpAnyH_take (i:=1) (oi:=(⟨some 18,_,_,_,_,none⟩:Oper)) (v:=_) rfl (by kernel_rfl) (by kernel_rfl) (by kernel_rfl) (fun _ _ _ h=>h) (yieldsIf_load_mid (by rfl) _ _ rfl _ _ rfl (z123.map (Value.int .i64)) _ ?hS126 Tryd.underlying100 rfl (by rw [List.length_map];exact el_i HL123.out)) (by assumption) ?rest126
  case hS126=>(intro w hSw;(try dsimp only at hSw);exact range_part (hSw.blk (HB124.out.get 2 rfl) (HB124.out.ne 2 1 rfl rfl (by decide))) 0 _ (by rw [List.length_map];exact arr_part _ _))
  (try simp only [Act.put,sA,sZ,sS])
  refine' wpAnyH_take (i:=2) (oi:=(⟨some 19,_,_,_,_,none⟩:Oper)) (v:=_) rfl (by kernel_rfl) (by kernel_rfl) (by kernel_rfl) (fun _ _ _ h=>h) (yieldsIf_load_mid (by rfl) _ _ rfl _ _ rfl (z123.map (Value.int .i64)) _ ?hS127 Tryd.underlying100 rfl (by rw [List.length_map];exact el_i HL123.out)) (by assumption) ?rest127
  case hS127=>(intro w hSw;(try dsimp only at hSw);exact range_part (hSw.blk (HB124.out.get 2 rfl) (HB124.out.ne 2 1 rfl rfl (by decide))) 0 _ (by rw [List.length_map];exact arr_part _ _))
  (try simp only [Act.put,sA,sZ,sS])
  refine' wpAnyH_take (i:=4) (oi:=(⟨some 21,_,_,_,_,none⟩:Oper)) (v:=_) rfl (by kernel_rfl) (by kernel_rfl) (by kernel_rfl) (fun _ _ _ h=>h) (yieldsIf_load_mid (by rfl) _ _ rfl _ _ rfl (xs.map (Value.int .i64)) _ ?hS128 Tryd.underlying100 rfl (by rw [List.length_map];exact el_i HXL.out)) (by assumption) ?rest128
  case hS128=>(intro w hSw;(try dsimp only at hSw);exact range_part (hSw.blk (HB124.out.get 0 rfl) (HB124.out.ne 0 1 rfl rfl (by decide))) 0 _ (by rw [List.length_map];exact arr_part _ _))
  (try simp only [Act.put,sA,sZ,sS])
  refine wpAnyH_ready (rs:=[3]) (by kernel_rfl) (by simp) ?_
  refine AllReadyH.cons (o:=(⟨some 20,_,_,_,_,none⟩:Oper)) rfl (fun K hK=>?_) AllReadyH.nil
  go_simp
  go_at_call 98
  refine (mul_any _ _ _ _ _ HZ123.out HZ123.out).mono ?_
  rintro e w129 ⟨z129,rfl,h129,hb129⟩
  have HZ129:=Lib.hid h129
  have HL129:=Lib.hid h129.1
  clear h129
  have HB129:=Lib.hid (HBd.out.kept hb129)
  have HK129:=Lib.hid (HK0.out.trans (Kept.of_below hb129))
  clear hb129
  (try dsimp only)
  refine hK.out _ _ (HK129.out) (fun hHeld=>?_)
  clear hK K
  (try simp only [Act.put,sA,sZ,sS])
  refine wpAnyH_ready (rs:=[5]) (by kernel_rfl) (by simp) ?_
  refine AllReadyH.cons (o:=(⟨some 22,_,_,_,_,none⟩:Oper)) rfl (fun K hK=>?_) AllReadyH.nil
  go_simp
  go_at_call 143
  refine (HSM2.out _ _ _ HZ129.out HX.out).mono ?_
  rintro e w130 ⟨rfl,hb130⟩
  have HB130:=Lib.hid (HB129.out.kept hb130)
  have HK130:=Lib.hid (HK129.out.trans (Kept.of_below hb130))
  clear hb130
  (try dsimp only)
  refine hK.out _ _ (HK130.out) (fun hHeld=>?_)
  clear hK K
  (try simp only [Act.put,sA,sZ,sS])
  refine wpAnyH_ready (rs:=[6]) (by kernel_rfl) (by simp) ?_
  refine AllReadyH.cons (o:=(⟨none,_,_,_,_,none⟩:Oper)) rfl (fun K hK=>?_) AllReadyH.nil
  refine step_store_whole rfl 100 (.tmp 2) (.tmp 17) rfl (w.heap.size+1) _ _ _ (HB130.out.get 1 rfl) rfl rfl (arr_len2 _ _ HL123.out HLze.out) (el_s HL123.out) (all_arr _ _) ?_
  intro w131 hb131 hk131 hz131
  have HB131:=Lib.hid (HB130.out.put 1 rfl hk131 hb131)
  have HK131:=Lib.hid (HK130.out.trans hk131)
  clear hb131 hk131 hz131
  refine hK.out _ _ (HK131.out) (fun hHeld=>?_)
  clear hK K
  (try simp only [Act.put])
  refine wpAnyH_take (i:=7) (oi:=(⟨some 3,_,_,_,_,none⟩:Oper)) (v:=?v132) rfl (by kernel_rfl) (by kernel_rfl) (by kernel_rfl) (fun _ _ _ h=>h) (Or.inl ⟨by rfl,?hy132⟩) (by assumption) ?rest132
  case hy132=>(intro w hSw;(try dsimp only at hSw);go_simp;try (with_reducible rfl))
  (try simp only [Act.put,sA,sZ,sS])
  refine wpAnyH_done (by kernel_rfl) ?_ _
  have HBL:=HB131
  have HLL:=HL123
  have HZL:=HZ123
  (try simp only [Exit.then])
  go_wp2_with fail
  (try simp only [Exit.inBlock,Exit.then])
  refine bodyPost_ret (results_cell_tmp_row rfl _ _ (w.heap.size+1) 100 _ (0,0) _ _ rfl (HBL.out.get 1 rfl) Tryd.underlying100 rfl (el_s HLL.out) rfl) rfl ?_
  refine ⟨_,?_,by rw [HR.out];exact HZL.out,HBL.out.below⟩
  rw [HR.out];rfl
end Go.Proofs.YtodnkallpfkdiaaDoor.Rd
namespace Go.Proofs.YtodnkallpfkdiaaDoor.Rd
open Go.RowKit Lm Fp Cu
/-- The cells of a value that came up. -/
def aggOf (o:Option Value):Array Value:=match o with
 | some (.agg c)=>c
 | _ => #[]
theorem upd_none {f:Fill} {k:Nat} (h:f k=none) (i:Nat) (v:Value) (hi:i≠k):f.upd i v k=none:=by
 unfold Fill.upd
 rw [if_neg (fun e=>hi e.symm)]
 exact h
theorem zero_pt (w:World):(zeroValue 102).run Tryd.prog w = .ok (.agg (arr .i64 (List.replicate 64 0))) w:=by kernel_rfl
theorem size_pt:(Tryd.prog.info? 102).map (·.size)=some 64:=by kernel_rfl
theorem pt_s {xs:List Int} (h:xs.length=64):(Tryd.prog.info? 102).map (·.size)=some (arr .i64 xs).size:=by rw [arr_size,h];exact size_pt
theorem pt_i {xs:List Int} (h:xs.length=64):(Tryd.prog.info? 102).map (·.size)=some xs.length:=by rw [h];exact size_pt
theorem pt_len {a b c d:List Int} (ha:a.length=16) (hb:b.length=16) (hc:c.length=16) (hd:d.length=16):(a ++ b ++ c ++ d).length=64:=by simp [ha,hb,hc,hd]
theorem four_partL (k:IntKind) (a b c d:List Int) (n:Nat) (ha:a.length=n) (hb:b.length=n) (hc:c.length=n) (hd:d.length=n) :
  ((arr k (a ++ b ++ c ++ d)).toList.drop 0).take a.length=a.map (Value.int k)∧((arr k (a ++ b ++ c ++ d)).toList.drop n).take b.length=b.map (Value.int k) ∧
  ((arr k (a ++ b ++ c ++ d)).toList.drop (n+n)).take c.length=c.map (Value.int k)∧((arr k (a ++ b ++ c ++ d)).toList.drop (n+n+n)).take d.length=d.map (Value.int k):=by
 have e:a ++ b ++ c ++ d=a ++ (b ++ (c ++ d)):=by simp only [List.append_assoc]
 have _:=hd
 rw [e]
 exact four_part k a b c d n ha hb hc
theorem build_pt (a b c d:List Int) (ha:a.length=16) (hb:b.length=16) (hc:c.length=16) (hd:d.length=16) (w:World) :
  (Instr.build 102 #[(0, .agg (arr .i64 a)),(1, .agg (arr .i64 b)),(2, .agg (arr .i64 c)),(3, .agg (arr .i64 d))]).run Tryd.prog w = .ok (.agg (arr .i64 (a ++ b ++ c ++ d))) w:=by
 unfold Instr.build
 simp only [Sem.run_bind,zero_pt,Result.andThen_ok,run_underlying Tryd.underlying102]
 refine (congrArg (fun R=>Result.andThen R _) (show _=Result.ok #[((0:Nat),16),(16,16),(2 * 16,16),(3 * 16,16)] w from ?h)).trans ?_
 case h=>kernel_rfl
 simp only [Result.andThen_ok]
 rw [show (Value.agg (arr .i64 (List.replicate 64 0))).cells=arr .i64 (List.replicate 64 0) from rfl,fill4 .i64 16 a b c d (List.replicate 64 0) ha hb hc hd (by simp)]
 rfl
theorem exec_build {P:Program} {o:Oper} {ev:Operand→Value} {w:World} (t:TypeId) (ps:Array (Nat×Operand)) (ho:o.op = .build t ps) (vs:Array (Nat×Value)) (hvs:ps.toList.map (fun p=>(p.1,ev p.2))=vs.toList) (v:Value) (hrun:(Instr.build t vs).run P w = .ok v w):(execOp ev o).run P w = .ok (.value v) w:=by
 have hv:ps.map (fun p=>(p.1,ev p.2))=vs:=by apply Array.toList_inj.1;rw [Array.toList_map];exact hvs
 simp only [execOp,ho,hv,Sem.run_bind,hrun,Result.andThen_ok]
 rfl
theorem rowE:RowT Tryd.prog 100 16:=⟨⟨_, Tryd.underlying100, rfl⟩,by kernel_rfl⟩
theorem rowQ:RowT Tryd.prog 102 64:=⟨⟨_, Tryd.underlying102, rfl⟩,size_pt⟩
theorem build_el0 (w:World):(Instr.build 100 #[]).run Tryd.prog w = .ok (.agg (arr .i64 (List.replicate 16 0))) w:=by kernel_rfl
theorem build_pt0 (w:World):(Instr.build 102 #[]).run Tryd.prog w = .ok (.agg (arr .i64 (List.replicate 64 0))) w:=by kernel_rfl
/-- The row vs stands for the point P. -/
def PtEl (vs:List Int) (P:Pt):Prop:=∃ x y z t,vs=x ++ y ++ z ++ t∧El x P.x∧El y P.y∧El z P.z∧El t P.t
theorem PtEl.len {vs:List Int} {P:Pt} (h:PtEl vs P):vs.length=64:=by
 obtain ⟨x,y,z,t,rfl,h1,h2,h3,h4⟩:=h
 exact pt_len h1.1 h2.1 h3.1 h4.1
def dL:List Int:=[0x78a3,0x1359,0x4dca,0x75eb,0xd8ab,0x4141,0xa4d,0x70,0xe898,0x7779,0x4079,0x8cc7,0xfe73,0x2b6f,0x6cee,0x5203]
def xL:List Int:=[0xd51a,0x8f25,0x2d60,0xc956,0xa7b2,0x9525,0xc760,0x692c,0xdc5c,0xfdd6,0xe231,0xc0a4,0x53fe,0xcd6e,0x36d3,0x2169]
def yL:List Int:=[0x6658,0x6666,0x6666,0x6666,0x6666,0x6666,0x6666,0x6666,0x6666,0x6666,0x6666,0x6666,0x6666,0x6666,0x6666,0x6666]
theorem dL_el:El dL dd:=by refine ⟨rfl,by decide +kernel,by decide +kernel⟩
theorem xL_el:El xL bx:=by refine ⟨rfl,by decide +kernel,by decide +kernel⟩
theorem yL_el:El yL bY:=by refine ⟨rfl,by decide +kernel,by decide +kernel⟩
def TabD (w:World):Prop:=w.rangeAt 3 0 (dL.map (Value.int .i64))
def TabX (w:World):Prop:=w.rangeAt 1 0 (xL.map (Value.int .i64))
def TabY (w:World):Prop:=w.rangeAt 2 0 (yL.map (Value.int .i64))
theorem mul_dd (a b c:Nat):fmul (fmul a b) c=fmul (fmul a c) b:=by
 unfold fmul
 rw [Nat.mod_mul_mod,Nat.mod_mul_mod,Nat.mul_right_comm]
theorem fmul_comm (a b:Nat):fmul a b=fmul b a:=by unfold fmul;rw [Nat.mul_comm]
theorem mul_two (a b:Nat):fadd (fmul a b) (fmul a b)=fmul a (fadd b b):=by
 unfold fadd fmul
 rw [← Nat.add_mod,Nat.mul_mod_mod,Nat.mul_add]
theorem sum_any (ps qs:List Int) (P Q:Pt) (w:World) (hp:PtEl ps P) (hq:PtEl qs Q) (hT:TabD w) :
  Calls Tryd.prog 100 #[.agg (arr .i64 ps), .agg (arr .i64 qs)] w fun e w'=>∃ zs,e = .returned (.agg (arr .i64 zs))∧PtEl zs (eadd P Q)∧Below w.heap.size w w':=by
 have HmW:=Lib.hid hp.len
 obtain ⟨mx,my,mz,mt,hme,hmx,hmy,hmz,hmt⟩:=hp
 have Hmx:=Lib.hid hmx
 have HmxL:=Lib.hid hmx.1
 have Hmy:=Lib.hid hmy
 have HmyL:=Lib.hid hmy.1
 have Hmz:=Lib.hid hmz
 have HmzL:=Lib.hid hmz.1
 have Hmt:=Lib.hid hmt
 have HmtL:=Lib.hid hmt.1
 have hmP:=four_partL .i64 mx my mz mt 16 hmx.1 hmy.1 hmz.1 hmt.1
 rw [← hme] at hmP
 have HmP:=Lib.hid hmP
 clear hmx hmy hmz hmt hme hmP
 have HoW:=Lib.hid hq.len
 obtain ⟨ox,oy,oz,ot,hoe,hox,hoy,hoz,hot⟩:=hq
 have Hox:=Lib.hid hox
 have HoxL:=Lib.hid hox.1
 have Hoy:=Lib.hid hoy
 have HoyL:=Lib.hid hoy.1
 have Hoz:=Lib.hid hoz
 have HozL:=Lib.hid hoz.1
 have Hot:=Lib.hid hot
 have HotL:=Lib.hid hot.1
 have hoP:=four_partL .i64 ox oy oz ot 16 hox.1 hoy.1 hoz.1 hot.1
 rw [← hoe] at hoP
 have HoP:=Lib.hid hoP
 clear hox hoy hoz hot hoe hoP
 obtain ⟨dl,hdl⟩:∃ x,x=dL:=⟨_,rfl⟩
 have HD:Hid (El dl dd):=Lib.hid (by rw [hdl];exact dL_el)
 have HDL:=Lib.hid HD.out.1
 unfold TabD at hT
 rw [← hdl] at hT
 have HT:=Lib.hid hT
 obtain ⟨ze,hze⟩:∃ zs:List Int,zs=List.replicate 16 0:=⟨_,rfl⟩
 have HZze:Hid (∀ w,(zeroValue 100).run Tryd.prog w = .ok (.agg (arr .i64 ze)) w):=Lib.hid (by intro w;rw [hze];exact zero_el w)
 have HLze:Hid (ze.length=16):=Lib.hid (by rw [hze];rfl)
 obtain ⟨zp,hzp⟩:∃ zs:List Int,zs=List.replicate 64 0:=⟨_,rfl⟩
 have HZzp:Hid (∀ w,(zeroValue 102).run Tryd.prog w = .ok (.agg (arr .i64 zp)) w):=Lib.hid (by intro w;rw [hzp];exact zero_pt w)
 have HLzp:Hid (zp.length=64):=Lib.hid (by rw [hzp];rfl)
 have HS0:=Lib.hid (Blk.three w (arr .i64 ps) (arr .i64 qs) (arr .i64 zp) 102 102 102)
 clear hze hzp hdl hT
 go_enter Tryd.func100, Tryd.ntmps100
 go_upto_region 1 with (first|((with_reducible refine aS 4 ?_);refine wpList_alloc_row rfl 102 rfl _ (HZzp.out _) ?_))
 (try simp only [World.size_alloc,Act.put,sA,sZ,sS])
 generalize (((w.alloc (.cells (arr .i64 ps) 102)).alloc (.cells (arr .i64 qs) 102)).alloc (.cells (arr .i64 zp) 102))=wb at HS0 ⊢
 refine wp_region_sym (T:=fun _=>False) (w:=w) (sy:=[Yp (w.heap.size) 16,Yr .i64 my,Yp (w.heap.size) 0,Yr .i64 mx,Ys .i64 (fun z=>El z (fsub P.y P.x)),Yp (w.heap.size+1) 16,Yr .i64 oy,Yp (w.heap.size+1) 0,Yr .i64 ox,Ys .i64 (fun z=>El z (fsub Q.y Q.x)),Ys .i64 (fun z=>El z (fmul (fsub P.y P.x) (fsub Q.y Q.x))),Yn (arr .i64 ze) 100, Y0]) (pt:=[(12,14,celR .i64 (fun z=>El z (fmul (fsub P.y P.x) (fsub Q.y Q.x))) 100)]) (by kernel_rfl) (by kernel_rfl) (by kernel_rfl) HS0.out.holds (fun hW=>?sa1) (fun qa1 xa1 ua1 _ hH=>?ea1)
 case sa1 =>
  refine SyP hW ?_
  refine SyL hW ?_ 0 16 (arr .i64 ps) 102 rowE HmyL.out (HmP.out.2.1)
  refine SyP hW ?_
  refine SyL hW ?_ 0 0 (arr .i64 ps) 102 rowE HmxL.out (HmP.out.1)
  refine SyC2 hW ?_ (k := .i64) (R:=(fun z=>El z (fsub P.y P.x))) (.h (.agg (arr .i64 my))) (.h (.agg (arr .i64 mx))) (fun _ _ _ hA hB=>by cases hA;cases hB;exact sub_any _ _ _ _ _ Hmy.out Hmx.out)
  refine SyP hW ?_
  refine SyL hW ?_ 1 16 (arr .i64 qs) 102 rowE HoyL.out (HoP.out.2.1)
  refine SyP hW ?_
  refine SyL hW ?_ 1 0 (arr .i64 qs) 102 rowE HoxL.out (HoP.out.1)
  refine SyC2 hW ?_ (k := .i64) (R:=(fun z=>El z (fsub Q.y Q.x))) (.h (.agg (arr .i64 oy))) (.h (.agg (arr .i64 ox))) (fun _ _ _ hA hB=>by cases hA;cases hB;exact sub_any _ _ _ _ _ Hoy.out Hox.out)
  refine SyC2 hW ?_ (k := .i64) (R:=(fun z=>El z (fmul (fsub P.y P.x) (fsub Q.y Q.x)))) (.s 4 .i64 (fun z=>El z (fsub P.y P.x))) (.s 9 .i64 (fun z=>El z (fsub Q.y Q.x))) (fun _ _ _ hA hB=>by obtain ⟨xa1_4,rfl,hz⟩:=hA;have Ra1_4:=Lib.hid hz;have HLa1_4:=Lib.hid (show xa1_4.length=_ from hz.1);obtain ⟨xa1_9,rfl,hz⟩:=hB;have Ra1_9:=Lib.hid hz;have HLa1_9:=Lib.hid (show xa1_9.length=_ from hz.1);exact mul_any _ _ _ _ _ Ra1_4.out Ra1_9.out)
  refine SyA hW ?_ HZze.out
  refine SySr hW ?_ (k := .i64) (R:=(fun z=>El z (fmul (fsub P.y P.x) (fsub Q.y Q.x)))) (t := 100) (p:=cel (arr .i64 ze) 100) 14 10 rowE (fun z h=>h.1) (fun o h=>⟨_,h,asz HLze.out⟩) (by kernel_rfl) (by kernel_rfl)
  exact SyN
 case ea1 =>
 obtain ⟨ya1_14,hz,hH⟩:=hH.opn 14 (g:=(qa1 11)) (k := .i64) (R:=(fun z=>El z (fmul (fsub P.y P.x) (fsub Q.y Q.x)))) (t := 100) (by kernel_rfl)
 have RYa1_14:=Lib.hid hz
 have HYa1_14:=Lib.hid (show ya1_14.length=_ from hz.1)
 clear hz
 have HBa1:=Lib.hid (hH.blk [0,1,2,14] [(w.heap.size,arr .i64 ps, 102),(w.heap.size+1,arr .i64 qs, 102),(w.heap.size+1+1,arr .i64 zp, 102),((qa1 11),arr .i64 ya1_14, 100)] (by decide) (by kernel_rfl))
 simp only [lay,Sy.at,den',Yr,Yv,Yp,Yq,Yn,Y0,Ys,Act.put,sA,sZ,sS,Nat.reduceAdd]
 clear hH HS0
 (try simp only [Exit.then])
 go_upto_region 2 with fail
 refine wp_region_sym (T:=fun _=>False) (w:=w) (sy:=[Yp (w.heap.size) 16,Yr .i64 my,Yp (w.heap.size) 0,Yr .i64 mx,Ys .i64 (fun z=>El z (fadd P.y P.x)),Yp (w.heap.size+1) 16,Yr .i64 oy,Yp (w.heap.size+1) 0,Yr .i64 ox,Ys .i64 (fun z=>El z (fadd Q.y Q.x)),Ys .i64 (fun z=>El z (fmul (fadd P.y P.x) (fadd Q.y Q.x))),Yn (arr .i64 ze) 100, Y0]) (pt:=[(12,15,celR .i64 (fun z=>El z (fmul (fadd P.y P.x) (fadd Q.y Q.x))) 100)]) (by kernel_rfl) (by kernel_rfl) (by kernel_rfl) HBa1.out.holds (fun hW=>?sa2) (fun qa2 xa2 ua2 _ hH=>?ea2)
 case sa2 =>
  refine SyP hW ?_
  refine SyL hW ?_ 0 16 (arr .i64 ps) 102 rowE HmyL.out (HmP.out.2.1)
  refine SyP hW ?_
  refine SyL hW ?_ 0 0 (arr .i64 ps) 102 rowE HmxL.out (HmP.out.1)
  refine SyC2 hW ?_ (k := .i64) (R:=(fun z=>El z (fadd P.y P.x))) (.h (.agg (arr .i64 my))) (.h (.agg (arr .i64 mx))) (fun _ _ _ hA hB=>by cases hA;cases hB;exact add_any _ _ _ _ _ Hmy.out Hmx.out)
  refine SyP hW ?_
  refine SyL hW ?_ 1 16 (arr .i64 qs) 102 rowE HoyL.out (HoP.out.2.1)
  refine SyP hW ?_
  refine SyL hW ?_ 1 0 (arr .i64 qs) 102 rowE HoxL.out (HoP.out.1)
  refine SyC2 hW ?_ (k := .i64) (R:=(fun z=>El z (fadd Q.y Q.x))) (.h (.agg (arr .i64 oy))) (.h (.agg (arr .i64 ox))) (fun _ _ _ hA hB=>by cases hA;cases hB;exact add_any _ _ _ _ _ Hoy.out Hox.out)
  refine SyC2 hW ?_ (k := .i64) (R:=(fun z=>El z (fmul (fadd P.y P.x) (fadd Q.y Q.x)))) (.s 4 .i64 (fun z=>El z (fadd P.y P.x))) (.s 9 .i64 (fun z=>El z (fadd Q.y Q.x))) (fun _ _ _ hA hB=>by obtain ⟨xa2_4,rfl,hz⟩:=hA;have Ra2_4:=Lib.hid hz;have HLa2_4:=Lib.hid (show xa2_4.length=_ from hz.1);obtain ⟨xa2_9,rfl,hz⟩:=hB;have Ra2_9:=Lib.hid hz;have HLa2_9:=Lib.hid (show xa2_9.length=_ from hz.1);exact mul_any _ _ _ _ _ Ra2_4.out Ra2_9.out)
  refine SyA hW ?_ HZze.out
  refine SySr hW ?_ (k := .i64) (R:=(fun z=>El z (fmul (fadd P.y P.x) (fadd Q.y Q.x)))) (t := 100) (p:=cel (arr .i64 ze) 100) 15 10 rowE (fun z h=>h.1) (fun o h=>⟨_,h,asz HLze.out⟩) (by kernel_rfl) (by kernel_rfl)
  exact SyN
 case ea2 =>
 obtain ⟨ya2_15,hz,hH⟩:=hH.opn 15 (g:=(qa2 11)) (k := .i64) (R:=(fun z=>El z (fmul (fadd P.y P.x) (fadd Q.y Q.x)))) (t := 100) (by kernel_rfl)
 have RYa2_15:=Lib.hid hz
 have HYa2_15:=Lib.hid (show ya2_15.length=_ from hz.1)
 clear hz
 have HBa2:=Lib.hid (hH.blk [0,1,2,3,15] [(w.heap.size,arr .i64 ps, 102),(w.heap.size+1,arr .i64 qs, 102),(w.heap.size+1+1,arr .i64 zp, 102),((qa1 11),arr .i64 ya1_14, 100),((qa2 11),arr .i64 ya2_15, 100)] (by decide) (by kernel_rfl))
 simp only [lay,Sy.at,den',Yr,Yv,Yp,Yq,Yn,Y0,Ys,Act.put,sA,sZ,sS,Nat.reduceAdd]
 clear hH HBa1
 (try simp only [Exit.then])
 go_upto_region 3 with fail
 refine wp_region_sym (T:=fun _=>False) (w:=w) (sy:=[Yp (w.heap.size) 48,Yr .i64 mt,Yp (w.heap.size+1) 48,Yr .i64 ot,Ys .i64 (fun z=>El z (fmul P.t Q.t)),Yr .i64 dl,Yr .i64 dl,Ys .i64 (fun z=>El z (fadd dd dd)),Ys .i64 (fun z=>El z (fmul (fmul P.t Q.t) (fadd dd dd))),Yn (arr .i64 ze) 100, Y0]) (pt:=[(10,14,celR .i64 (fun z=>El z (fmul (fmul P.t Q.t) (fadd dd dd))) 100)]) (by kernel_rfl) (by kernel_rfl) (by kernel_rfl) HBa2.out.holds (fun hW=>?sa3) (fun qa3 xa3 ua3 _ hH=>?ea3)
 case sa3 =>
  refine SyP hW ?_
  refine SyL hW ?_ 0 48 (arr .i64 ps) 102 rowE HmtL.out (HmP.out.2.2.2)
  refine SyP hW ?_
  refine SyL hW ?_ 1 48 (arr .i64 qs) 102 rowE HotL.out (HoP.out.2.2.2)
  refine SyC2 hW ?_ (k := .i64) (R:=(fun z=>El z (fmul P.t Q.t))) (.h (.agg (arr .i64 mt))) (.h (.agg (arr .i64 ot))) (fun _ _ _ hA hB=>by cases hA;cases hB;exact mul_any _ _ _ _ _ Hmt.out Hot.out)
  refine SyG hW ?_ (fun u b K k h=>by refine wp_load_mid 100 (.global 3) rfl 3 0 rfl (dl.map (Value.int .i64)) _ (range_below HT.out (Kept.toBelow k (Nat.le_refl _) (fun _ e=>e.elim))) Tryd.underlying100 rfl (by rw [List.length_map];exact el_i HDL.out) h)
  refine SyG hW ?_ (fun u b K k h=>by refine wp_load_mid 100 (.global 3) rfl 3 0 rfl (dl.map (Value.int .i64)) _ (range_below HT.out (Kept.toBelow k (Nat.le_refl _) (fun _ e=>e.elim))) Tryd.underlying100 rfl (by rw [List.length_map];exact el_i HDL.out) h)
  refine SyC2 hW ?_ (k := .i64) (R:=(fun z=>El z (fadd dd dd))) (.h (.agg (arr .i64 dl))) (.h (.agg (arr .i64 dl))) (fun _ _ _ hA hB=>by cases hA;cases hB;exact add_any _ _ _ _ _ HD.out HD.out)
  refine SyC2 hW ?_ (k := .i64) (R:=(fun z=>El z (fmul (fmul P.t Q.t) (fadd dd dd)))) (.s 4 .i64 (fun z=>El z (fmul P.t Q.t))) (.s 7 .i64 (fun z=>El z (fadd dd dd))) (fun _ _ _ hA hB=>by obtain ⟨xa3_4,rfl,hz⟩:=hA;have Ra3_4:=Lib.hid hz;have HLa3_4:=Lib.hid (show xa3_4.length=_ from hz.1);obtain ⟨xa3_7,rfl,hz⟩:=hB;have Ra3_7:=Lib.hid hz;have HLa3_7:=Lib.hid (show xa3_7.length=_ from hz.1);exact mul_any _ _ _ _ _ Ra3_4.out Ra3_7.out)
  refine SyA hW ?_ HZze.out
  refine SySr hW ?_ (k := .i64) (R:=(fun z=>El z (fmul (fmul P.t Q.t) (fadd dd dd)))) (t := 100) (p:=cel (arr .i64 ze) 100) 14 8 rowE (fun z h=>h.1) (fun o h=>⟨_,h,asz HLze.out⟩) (by kernel_rfl) (by kernel_rfl)
  exact SyN
 case ea3 =>
 obtain ⟨ya3_14,hz,hH⟩:=hH.opn 14 (g:=(qa3 9)) (k := .i64) (R:=(fun z=>El z (fmul (fmul P.t Q.t) (fadd dd dd)))) (t := 100) (by kernel_rfl)
 have RYa3_14:=Lib.hid hz
 have HYa3_14:=Lib.hid (show ya3_14.length=_ from hz.1)
 clear hz
 have HBa3:=Lib.hid (hH.blk [0,1,2,3,4,14] [(w.heap.size,arr .i64 ps, 102),(w.heap.size+1,arr .i64 qs, 102),(w.heap.size+1+1,arr .i64 zp, 102),((qa1 11),arr .i64 ya1_14, 100),((qa2 11),arr .i64 ya2_15, 100),((qa3 9),arr .i64 ya3_14, 100)] (by decide) (by kernel_rfl))
 simp only [lay,Sy.at,den',Yr,Yv,Yp,Yq,Yn,Y0,Ys,Act.put,sA,sZ,sS,Nat.reduceAdd]
 clear hH HBa2
 (try simp only [Exit.then])
 go_upto_region 5 with (first|((with_reducible refine aS 45 ?_);refine wpList_load_part rfl 100 _ rfl (w.heap.size) (32) _ 102 (0,0) _ (HBa3.out.get 0 rfl) rfl .i64 mz (HmP.out.2.2.1) Tryd.underlying100 rfl (el_i HmzL.out) ?_)|((with_reducible refine aS 47 ?_);refine wpList_load_part rfl 100 _ rfl (w.heap.size+1) (32) _ 102 (0,0) _ (HBa3.out.get 1 rfl) rfl .i64 oz (HoP.out.2.2.1) Tryd.underlying100 rfl (el_i HozL.out) ?_)|((with_reducible show Calls _ 98 #[.agg _, .agg _] _ _);go_at_call 98; refine (mul_any _ _ _ _ _ Hmz.out Hoz.out).mono ?_;rintro e w101 ⟨z101,rfl,h101,hb101⟩;have HZ101:=Lib.hid h101;have HL101:=Lib.hid h101.1;clear h101;have HB101:=Lib.hid (HBa3.out.kept hb101);clear hb101)|((with_reducible refine aS 8 ?_);refine wpList_alloc_row rfl 100 rfl _ (HZze.out _) ?_;have HB102:=Lib.hid (HB101.out.alloc (arr .i64 ze) 100);generalize w101.heap.size=g102 at HB102 ⊢; generalize w101.alloc (.cells (arr .i64 ze) 100)=w102 at HB102 ⊢; clear HB101)|((with_reducible refine aT 8 (x:=(Operand.tmp 48)) ?_);refine wpList_store_whole rfl 100 _ _ rfl (g102) _ _ 100 (HB102.out.get 6 rfl) rfl rfl (arr_len2 _ _ HL101.out HLze.out) (el_s HL101.out) (all_arr _ _) ?_;intro w103 hb103 hk103 hz103;have HB103:=Lib.hid (HB102.out.put 6 rfl hk103 hb103);clear hb103 hk103 hz103;clear HB102))
 go_upto_region 6 with (first|((with_reducible refine aS 49 ?_);refine wpList_load_part rfl 100 _ rfl (g102) (0) _ 100 (0,0) _ (HB103.out.get 6 rfl) rfl .i64 z101 (arr_part _ _) Tryd.underlying100 rfl (el_i HL101.out) ?_)|((with_reducible refine aS 50 ?_);refine wpList_load_part rfl 100 _ rfl (g102) (0) _ 100 (0,0) _ (HB103.out.get 6 rfl) rfl .i64 z101 (arr_part _ _) Tryd.underlying100 rfl (el_i HL101.out) ?_)|((with_reducible show Calls _ 107 #[.agg _, .agg _] _ _);go_at_call 107; refine (add_any _ _ _ _ _ HZ101.out HZ101.out).mono ?_;rintro e w104 ⟨z104,rfl,h104,hb104⟩;have HZ104:=Lib.hid h104;have HL104:=Lib.hid h104.1;clear h104;have HB104:=Lib.hid (HB103.out.kept hb104);clear hb104;clear HB103)|((with_reducible refine aT 8 (x:=(Operand.tmp 51)) ?_);refine wpList_store_whole rfl 100 _ _ rfl (g102) _ _ 100 (HB104.out.get 6 rfl) rfl rfl (arr_len2 _ _ HL104.out HL101.out) (el_s HL104.out) (all_arr _ _) ?_;intro w105 hb105 hk105 hz105;have HB105:=Lib.hid (HB104.out.put 6 rfl hk105 hb105);clear hb105 hk105 hz105;clear HB104))
 go_upto_region 7 with (first|((with_reducible refine aS 52 ?_);refine wpList_load_part rfl 100 _ rfl ((qa2 11)) (0) _ 100 (0,0) _ (HB105.out.get 4 rfl) rfl .i64 ya2_15 (arr_part _ _) Tryd.underlying100 rfl (el_i HYa2_15.out) ?_)|((with_reducible refine aS 53 ?_);refine wpList_load_part rfl 100 _ rfl ((qa1 11)) (0) _ 100 (0,0) _ (HB105.out.get 3 rfl) rfl .i64 ya1_14 (arr_part _ _) Tryd.underlying100 rfl (el_i HYa1_14.out) ?_)|((with_reducible show Calls _ 106 #[.agg _, .agg _] _ _);go_at_call 106; refine (sub_any _ _ _ _ _ RYa2_15.out RYa1_14.out).mono ?_;rintro e w106 ⟨z106,rfl,h106,hb106⟩;have HZ106:=Lib.hid h106;have HL106:=Lib.hid h106.1;clear h106;have HB106:=Lib.hid (HB105.out.kept hb106);clear hb106;clear HB105)|((with_reducible refine aS 9 ?_);refine wpList_alloc_row rfl 100 rfl _ (HZze.out _) ?_;have HB107:=Lib.hid (HB106.out.alloc (arr .i64 ze) 100);generalize w106.heap.size=g107 at HB107 ⊢; generalize w106.alloc (.cells (arr .i64 ze) 100)=w107 at HB107 ⊢; clear HB106)|((with_reducible refine aT 9 (x:=(Operand.tmp 54)) ?_);refine wpList_store_whole rfl 100 _ _ rfl (g107) _ _ 100 (HB107.out.get 7 rfl) rfl rfl (arr_len2 _ _ HL106.out HLze.out) (el_s HL106.out) (all_arr _ _) ?_;intro w108 hb108 hk108 hz108;have HB108:=Lib.hid (HB107.out.put 7 rfl hk108 hb108);clear hb108 hk108 hz108;clear HB107))
 go_upto_region 8 with (first|((with_reducible refine aS 55 ?_);refine wpList_load_part rfl 100 _ rfl (g102) (0) _ 100 (0,0) _ (HB108.out.get 6 rfl) rfl .i64 z104 (arr_part _ _) Tryd.underlying100 rfl (el_i HL104.out) ?_)|((with_reducible refine aS 56 ?_);refine wpList_load_part rfl 100 _ rfl ((qa3 9)) (0) _ 100 (0,0) _ (HB108.out.get 5 rfl) rfl .i64 ya3_14 (arr_part _ _) Tryd.underlying100 rfl (el_i HYa3_14.out) ?_)|((with_reducible show Calls _ 106 #[.agg _, .agg _] _ _);go_at_call 106; refine (sub_any _ _ _ _ _ HZ104.out RYa3_14.out).mono ?_;rintro e w109 ⟨z109,rfl,h109,hb109⟩;have HZ109:=Lib.hid h109;have HL109:=Lib.hid h109.1;clear h109;have HB109:=Lib.hid (HB108.out.kept hb109);clear hb109;clear HB108)|((with_reducible refine aS 10 ?_);refine wpList_alloc_row rfl 100 rfl _ (HZze.out _) ?_;have HB110:=Lib.hid (HB109.out.alloc (arr .i64 ze) 100);generalize w109.heap.size=g110 at HB110 ⊢; generalize w109.alloc (.cells (arr .i64 ze) 100)=w110 at HB110 ⊢; clear HB109)|((with_reducible refine aT 10 (x:=(Operand.tmp 57)) ?_);refine wpList_store_whole rfl 100 _ _ rfl (g110) _ _ 100 (HB110.out.get 8 rfl) rfl rfl (arr_len2 _ _ HL109.out HLze.out) (el_s HL109.out) (all_arr _ _) ?_;intro w111 hb111 hk111 hz111;have HB111:=Lib.hid (HB110.out.put 8 rfl hk111 hb111);clear hb111 hk111 hz111;clear HB110))
 go_upto_region 9 with (first|((with_reducible refine aS 58 ?_);refine wpList_load_part rfl 100 _ rfl (g102) (0) _ 100 (0,0) _ (HB111.out.get 6 rfl) rfl .i64 z104 (arr_part _ _) Tryd.underlying100 rfl (el_i HL104.out) ?_)|((with_reducible refine aS 59 ?_);refine wpList_load_part rfl 100 _ rfl ((qa3 9)) (0) _ 100 (0,0) _ (HB111.out.get 5 rfl) rfl .i64 ya3_14 (arr_part _ _) Tryd.underlying100 rfl (el_i HYa3_14.out) ?_)|((with_reducible show Calls _ 107 #[.agg _, .agg _] _ _);go_at_call 107; refine (add_any _ _ _ _ _ HZ104.out RYa3_14.out).mono ?_;rintro e w112 ⟨z112,rfl,h112,hb112⟩;have HZ112:=Lib.hid h112;have HL112:=Lib.hid h112.1;clear h112;have HB112:=Lib.hid (HB111.out.kept hb112);clear hb112;clear HB111)|((with_reducible refine aS 11 ?_);refine wpList_alloc_row rfl 100 rfl _ (HZze.out _) ?_;have HB113:=Lib.hid (HB112.out.alloc (arr .i64 ze) 100);generalize w112.heap.size=g113 at HB113 ⊢; generalize w112.alloc (.cells (arr .i64 ze) 100)=w113 at HB113 ⊢; clear HB112)|((with_reducible refine aT 11 (x:=(Operand.tmp 60)) ?_);refine wpList_store_whole rfl 100 _ _ rfl (g113) _ _ 100 (HB113.out.get 9 rfl) rfl rfl (arr_len2 _ _ HL112.out HLze.out) (el_s HL112.out) (all_arr _ _) ?_;intro w114 hb114 hk114 hz114;have HB114:=Lib.hid (HB113.out.put 9 rfl hk114 hb114);clear hb114 hk114 hz114;clear HB113))
 go_upto_region 10 with (first|((with_reducible refine aS 61 ?_);refine wpList_load_part rfl 100 _ rfl ((qa2 11)) (0) _ 100 (0,0) _ (HB114.out.get 4 rfl) rfl .i64 ya2_15 (arr_part _ _) Tryd.underlying100 rfl (el_i HYa2_15.out) ?_)|((with_reducible refine aS 62 ?_);refine wpList_load_part rfl 100 _ rfl ((qa1 11)) (0) _ 100 (0,0) _ (HB114.out.get 3 rfl) rfl .i64 ya1_14 (arr_part _ _) Tryd.underlying100 rfl (el_i HYa1_14.out) ?_)|((with_reducible show Calls _ 107 #[.agg _, .agg _] _ _);go_at_call 107; refine (add_any _ _ _ _ _ RYa2_15.out RYa1_14.out).mono ?_;rintro e w115 ⟨z115,rfl,h115,hb115⟩;have HZ115:=Lib.hid h115;have HL115:=Lib.hid h115.1;clear h115;have HB115:=Lib.hid (HB114.out.kept hb115);clear hb115;clear HB114)|((with_reducible refine aS 12 ?_);refine wpList_alloc_row rfl 100 rfl _ (HZze.out _) ?_;have HB116:=Lib.hid (HB115.out.alloc (arr .i64 ze) 100);generalize w115.heap.size=g116 at HB116 ⊢; generalize w115.alloc (.cells (arr .i64 ze) 100)=w116 at HB116 ⊢; clear HB115)|((with_reducible refine aT 12 (x:=(Operand.tmp 63)) ?_);refine wpList_store_whole rfl 100 _ _ rfl (g116) _ _ 100 (HB116.out.get 10 rfl) rfl rfl (arr_len2 _ _ HL115.out HLze.out) (el_s HL115.out) (all_arr _ _) ?_;intro w117 hb117 hk117 hz117;have HB117:=Lib.hid (HB116.out.put 10 rfl hk117 hb117);clear hb117 hk117 hz117;clear HB116))
 refine wp_region_sym (T:=fun _=>False) (w:=w) (sy:=[Yr .i64 z106,Yr .i64 z109,Ys .i64 (fun z=>El z (fmul (fsub (fmul (fadd P.y P.x) (fadd Q.y Q.x)) (fmul (fsub P.y P.x) (fsub Q.y Q.x))) (fsub (fadd (fmul P.z Q.z) (fmul P.z Q.z)) (fmul (fmul P.t Q.t) (fadd dd dd))))),Yr .i64 z115,Yr .i64 z112,Ys .i64 (fun z=>El z (fmul (fadd (fmul (fadd P.y P.x) (fadd Q.y Q.x)) (fmul (fsub P.y P.x) (fsub Q.y Q.x))) (fadd (fadd (fmul P.z Q.z) (fmul P.z Q.z)) (fmul (fmul P.t Q.t) (fadd dd dd))))),Yr .i64 z109,Yr .i64 z112,Ys .i64 (fun z=>El z (fmul (fsub (fadd (fmul P.z Q.z) (fmul P.z Q.z)) (fmul (fmul P.t Q.t) (fadd dd dd))) (fadd (fadd (fmul P.z Q.z) (fmul P.z Q.z)) (fmul (fmul P.t Q.t) (fadd dd dd))))),Yr .i64 z106,Yr .i64 z115,Ys .i64 (fun z=>El z (fmul (fsub (fmul (fadd P.y P.x) (fadd Q.y Q.x)) (fmul (fsub P.y P.x) (fsub Q.y Q.x))) (fadd (fmul (fadd P.y P.x) (fadd Q.y Q.x)) (fmul (fsub P.y P.x) (fsub Q.y Q.x))))),Ys .i64 (fun z=>PtEl z (⟨(fmul (fsub (fmul (fadd P.y P.x) (fadd Q.y Q.x)) (fmul (fsub P.y P.x) (fsub Q.y Q.x))) (fsub (fadd (fmul P.z Q.z) (fmul P.z Q.z)) (fmul (fmul P.t Q.t) (fadd dd dd)))),(fmul (fadd (fmul (fadd P.y P.x) (fadd Q.y Q.x)) (fmul (fsub P.y P.x) (fsub Q.y Q.x))) (fadd (fadd (fmul P.z Q.z) (fmul P.z Q.z)) (fmul (fmul P.t Q.t) (fadd dd dd)))),(fmul (fsub (fadd (fmul P.z Q.z) (fmul P.z Q.z)) (fmul (fmul P.t Q.t) (fadd dd dd))) (fadd (fadd (fmul P.z Q.z) (fmul P.z Q.z)) (fmul (fmul P.t Q.t) (fadd dd dd)))),(fmul (fsub (fmul (fadd P.y P.x) (fadd Q.y Q.x)) (fmul (fsub P.y P.x) (fsub Q.y Q.x))) (fadd (fmul (fadd P.y P.x) (fadd Q.y Q.x)) (fmul (fsub P.y P.x) (fsub Q.y Q.x))))⟩:Pt)),Y0]) (pt:=[(13,2,celR .i64 (fun z=>PtEl z (⟨(fmul (fsub (fmul (fadd P.y P.x) (fadd Q.y Q.x)) (fmul (fsub P.y P.x) (fsub Q.y Q.x))) (fsub (fadd (fmul P.z Q.z) (fmul P.z Q.z)) (fmul (fmul P.t Q.t) (fadd dd dd)))),(fmul (fadd (fmul (fadd P.y P.x) (fadd Q.y Q.x)) (fmul (fsub P.y P.x) (fsub Q.y Q.x))) (fadd (fadd (fmul P.z Q.z) (fmul P.z Q.z)) (fmul (fmul P.t Q.t) (fadd dd dd)))),(fmul (fsub (fadd (fmul P.z Q.z) (fmul P.z Q.z)) (fmul (fmul P.t Q.t) (fadd dd dd))) (fadd (fadd (fmul P.z Q.z) (fmul P.z Q.z)) (fmul (fmul P.t Q.t) (fadd dd dd)))),(fmul (fsub (fmul (fadd P.y P.x) (fadd Q.y Q.x)) (fmul (fsub P.y P.x) (fsub Q.y Q.x))) (fadd (fmul (fadd P.y P.x) (fadd Q.y Q.x)) (fmul (fsub P.y P.x) (fsub Q.y Q.x))))⟩:Pt)) 102)]) (by kernel_rfl) (by kernel_rfl) (by kernel_rfl) HB117.out.holds (fun hW=>?sa10) (fun qa10 xa10 ua10 _ hH=>?ea10)
 case sa10 =>
  refine SyL hW ?_ 7 0 (arr .i64 z106) 100 rowE HL106.out (arr_part _ _)
  refine SyL hW ?_ 8 0 (arr .i64 z109) 100 rowE HL109.out (arr_part _ _)
  refine SyC2 hW ?_ (k := .i64) (R:=(fun z=>El z (fmul (fsub (fmul (fadd P.y P.x) (fadd Q.y Q.x)) (fmul (fsub P.y P.x) (fsub Q.y Q.x))) (fsub (fadd (fmul P.z Q.z) (fmul P.z Q.z)) (fmul (fmul P.t Q.t) (fadd dd dd)))))) (.h (.agg (arr .i64 z106))) (.h (.agg (arr .i64 z109))) (fun _ _ _ hA hB=>by cases hA;cases hB;exact mul_any _ _ _ _ _ HZ106.out HZ109.out)
  refine SyL hW ?_ 10 0 (arr .i64 z115) 100 rowE HL115.out (arr_part _ _)
  refine SyL hW ?_ 9 0 (arr .i64 z112) 100 rowE HL112.out (arr_part _ _)
  refine SyC2 hW ?_ (k := .i64) (R:=(fun z=>El z (fmul (fadd (fmul (fadd P.y P.x) (fadd Q.y Q.x)) (fmul (fsub P.y P.x) (fsub Q.y Q.x))) (fadd (fadd (fmul P.z Q.z) (fmul P.z Q.z)) (fmul (fmul P.t Q.t) (fadd dd dd)))))) (.h (.agg (arr .i64 z115))) (.h (.agg (arr .i64 z112))) (fun _ _ _ hA hB=>by cases hA;cases hB;exact mul_any _ _ _ _ _ HZ115.out HZ112.out)
  refine SyL hW ?_ 8 0 (arr .i64 z109) 100 rowE HL109.out (arr_part _ _)
  refine SyL hW ?_ 9 0 (arr .i64 z112) 100 rowE HL112.out (arr_part _ _)
  refine SyC2 hW ?_ (k := .i64) (R:=(fun z=>El z (fmul (fsub (fadd (fmul P.z Q.z) (fmul P.z Q.z)) (fmul (fmul P.t Q.t) (fadd dd dd))) (fadd (fadd (fmul P.z Q.z) (fmul P.z Q.z)) (fmul (fmul P.t Q.t) (fadd dd dd)))))) (.h (.agg (arr .i64 z109))) (.h (.agg (arr .i64 z112))) (fun _ _ _ hA hB=>by cases hA;cases hB;exact mul_any _ _ _ _ _ HZ109.out HZ112.out)
  refine SyL hW ?_ 7 0 (arr .i64 z106) 100 rowE HL106.out (arr_part _ _)
  refine SyL hW ?_ 10 0 (arr .i64 z115) 100 rowE HL115.out (arr_part _ _)
  refine SyC2 hW ?_ (k := .i64) (R:=(fun z=>El z (fmul (fsub (fmul (fadd P.y P.x) (fadd Q.y Q.x)) (fmul (fsub P.y P.x) (fsub Q.y Q.x))) (fadd (fmul (fadd P.y P.x) (fadd Q.y Q.x)) (fmul (fsub P.y P.x) (fsub Q.y Q.x)))))) (.h (.agg (arr .i64 z106))) (.h (.agg (arr .i64 z115))) (fun _ _ _ hA hB=>by cases hA;cases hB;exact mul_any _ _ _ _ _ HZ106.out HZ115.out)
  refine SyB4 hW ?_ (k := .i64) (R:=(fun z=>PtEl z (⟨(fmul (fsub (fmul (fadd P.y P.x) (fadd Q.y Q.x)) (fmul (fsub P.y P.x) (fsub Q.y Q.x))) (fsub (fadd (fmul P.z Q.z) (fmul P.z Q.z)) (fmul (fmul P.t Q.t) (fadd dd dd)))),(fmul (fadd (fmul (fadd P.y P.x) (fadd Q.y Q.x)) (fmul (fsub P.y P.x) (fsub Q.y Q.x))) (fadd (fadd (fmul P.z Q.z) (fmul P.z Q.z)) (fmul (fmul P.t Q.t) (fadd dd dd)))),(fmul (fsub (fadd (fmul P.z Q.z) (fmul P.z Q.z)) (fmul (fmul P.t Q.t) (fadd dd dd))) (fadd (fadd (fmul P.z Q.z) (fmul P.z Q.z)) (fmul (fmul P.t Q.t) (fadd dd dd)))),(fmul (fsub (fmul (fadd P.y P.x) (fadd Q.y Q.x)) (fmul (fsub P.y P.x) (fsub Q.y Q.x))) (fadd (fmul (fadd P.y P.x) (fadd Q.y Q.x)) (fmul (fsub P.y P.x) (fsub Q.y Q.x))))⟩:Pt))) (.s 2 .i64 (fun z=>El z (fmul (fsub (fmul (fadd P.y P.x) (fadd Q.y Q.x)) (fmul (fsub P.y P.x) (fsub Q.y Q.x))) (fsub (fadd (fmul P.z Q.z) (fmul P.z Q.z)) (fmul (fmul P.t Q.t) (fadd dd dd)))))) (.s 5 .i64 (fun z=>El z (fmul (fadd (fmul (fadd P.y P.x) (fadd Q.y Q.x)) (fmul (fsub P.y P.x) (fsub Q.y Q.x))) (fadd (fadd (fmul P.z Q.z) (fmul P.z Q.z)) (fmul (fmul P.t Q.t) (fadd dd dd)))))) (.s 8 .i64 (fun z=>El z (fmul (fsub (fadd (fmul P.z Q.z) (fmul P.z Q.z)) (fmul (fmul P.t Q.t) (fadd dd dd))) (fadd (fadd (fmul P.z Q.z) (fmul P.z Q.z)) (fmul (fmul P.t Q.t) (fadd dd dd)))))) (.s 11 .i64 (fun z=>El z (fmul (fsub (fmul (fadd P.y P.x) (fadd Q.y Q.x)) (fmul (fsub P.y P.x) (fsub Q.y Q.x))) (fadd (fmul (fadd P.y P.x) (fadd Q.y Q.x)) (fmul (fsub P.y P.x) (fsub Q.y Q.x)))))) (fun _ _ _ _ hA hB hC hD=>by obtain ⟨xa10_2,rfl,hz⟩:=hA;have Ra10_2:=Lib.hid hz;have HLa10_2:=Lib.hid (show xa10_2.length=_ from hz.1);obtain ⟨xa10_5,rfl,hz⟩:=hB;have Ra10_5:=Lib.hid hz;have HLa10_5:=Lib.hid (show xa10_5.length=_ from hz.1);obtain ⟨xa10_8,rfl,hz⟩:=hC;have Ra10_8:=Lib.hid hz;have HLa10_8:=Lib.hid (show xa10_8.length=_ from hz.1);obtain ⟨xa10_11,rfl,hz⟩:=hD;have Ra10_11:=Lib.hid hz;have HLa10_11:=Lib.hid (show xa10_11.length=_ from hz.1);exact ⟨_,build_pt _ _ _ _ HLa10_2.out HLa10_5.out HLa10_8.out HLa10_11.out,⟨_,_,_,_,rfl,Ra10_2.out,Ra10_5.out,Ra10_8.out,Ra10_11.out⟩⟩)
  refine SySr hW ?_ (k := .i64) (R:=(fun z=>PtEl z (⟨(fmul (fsub (fmul (fadd P.y P.x) (fadd Q.y Q.x)) (fmul (fsub P.y P.x) (fsub Q.y Q.x))) (fsub (fadd (fmul P.z Q.z) (fmul P.z Q.z)) (fmul (fmul P.t Q.t) (fadd dd dd)))),(fmul (fadd (fmul (fadd P.y P.x) (fadd Q.y Q.x)) (fmul (fsub P.y P.x) (fsub Q.y Q.x))) (fadd (fadd (fmul P.z Q.z) (fmul P.z Q.z)) (fmul (fmul P.t Q.t) (fadd dd dd)))),(fmul (fsub (fadd (fmul P.z Q.z) (fmul P.z Q.z)) (fmul (fmul P.t Q.t) (fadd dd dd))) (fadd (fadd (fmul P.z Q.z) (fmul P.z Q.z)) (fmul (fmul P.t Q.t) (fadd dd dd)))),(fmul (fsub (fmul (fadd P.y P.x) (fadd Q.y Q.x)) (fmul (fsub P.y P.x) (fsub Q.y Q.x))) (fadd (fmul (fadd P.y P.x) (fadd Q.y Q.x)) (fmul (fsub P.y P.x) (fsub Q.y Q.x))))⟩:Pt))) (t := 102) (p:=cel (arr .i64 zp) 102) 2 12 rowQ (fun z h=>h.len) (fun o h=>⟨_,h,asz HLzp.out⟩) (by kernel_rfl) (by kernel_rfl)
  exact SyN
 case ea10 =>
 obtain ⟨ya10_2,hz,hH⟩:=hH.opn 2 (g:=w.heap.size+1+1) (k := .i64) (R:=(fun z=>PtEl z (⟨(fmul (fsub (fmul (fadd P.y P.x) (fadd Q.y Q.x)) (fmul (fsub P.y P.x) (fsub Q.y Q.x))) (fsub (fadd (fmul P.z Q.z) (fmul P.z Q.z)) (fmul (fmul P.t Q.t) (fadd dd dd)))),(fmul (fadd (fmul (fadd P.y P.x) (fadd Q.y Q.x)) (fmul (fsub P.y P.x) (fsub Q.y Q.x))) (fadd (fadd (fmul P.z Q.z) (fmul P.z Q.z)) (fmul (fmul P.t Q.t) (fadd dd dd)))),(fmul (fsub (fadd (fmul P.z Q.z) (fmul P.z Q.z)) (fmul (fmul P.t Q.t) (fadd dd dd))) (fadd (fadd (fmul P.z Q.z) (fmul P.z Q.z)) (fmul (fmul P.t Q.t) (fadd dd dd)))),(fmul (fsub (fmul (fadd P.y P.x) (fadd Q.y Q.x)) (fmul (fsub P.y P.x) (fsub Q.y Q.x))) (fadd (fmul (fadd P.y P.x) (fadd Q.y Q.x)) (fmul (fsub P.y P.x) (fsub Q.y Q.x))))⟩:Pt))) (t := 102) (by kernel_rfl)
 have RYa10_2:=Lib.hid hz
 have HYa10_2:=Lib.hid (show ya10_2.length=_ from hz.len)
 clear hz
 have HBa10:=Lib.hid (hH.blk [0,1,2,3,4,5,6,7,8,9,10] [(w.heap.size,arr .i64 ps, 102),(w.heap.size+1,arr .i64 qs, 102),(w.heap.size+1+1,arr .i64 ya10_2, 102),((qa1 11),arr .i64 ya1_14, 100),((qa2 11),arr .i64 ya2_15, 100),((qa3 9),arr .i64 ya3_14, 100),(g102,arr .i64 z104, 100),(g107,arr .i64 z106, 100),(g110,arr .i64 z109, 100),(g113,arr .i64 z112, 100),(g116,arr .i64 z115, 100)] (by decide) (by kernel_rfl))
 simp only [lay,Sy.at,den',Yr,Yv,Yp,Yq,Yn,Y0,Ys,Act.put,sA,sZ,sS,Nat.reduceAdd]
 clear hH HB117
 (try simp only [Exit.then])
 go_wp2_with fail
 refine bodyPost_ret (results_cell_row rfl _ _ (w.heap.size+1+1) 102 _ (0,0) _ rfl (HBa10.out.get 2 rfl) Tryd.underlying102 rfl (pt_s HYa10_2.out)) rfl ?_
 refine ⟨_,rfl,?_,HBa10.out.below⟩
 obtain ⟨x,y,z,t,e,h1,h2,h3,h4⟩:=RYa10_2.out
 refine ⟨x,y,z,t,e,?_,?_,?_,h4⟩
 ·have:=h1;rw [mul_dd,mul_two] at this;exact this
 ·have:=h2
  rw [mul_dd,mul_two,fmul_comm (fadd (fmul (fadd P.y P.x) (fadd Q.y Q.x)) (fmul (fsub P.y P.x) (fsub Q.y Q.x)))] at this
  exact this
 ·have:=h3;rw [mul_dd,mul_two] at this;exact this
end Go.Proofs.YtodnkallpfkdiaaDoor.Rd
namespace Go.Proofs.YtodnkallpfkdiaaDoor.Rd
open Go.RowKit Lm Fp Cu
theorem nought_any (w:World):Calls Tryd.prog 99 #[] w fun e w'=>∃ zs,e = .returned (.agg (arr .i64 zs))∧PtEl zs nought∧Below w.heap.size w w':=by
 obtain ⟨ze,hze⟩:∃ zs:List Int,zs=List.replicate 16 0:=⟨_,rfl⟩
 have HZze:Hid (∀ w,(zeroValue 100).run Tryd.prog w = .ok (.agg (arr .i64 ze)) w):=Lib.hid (by intro w;rw [hze];exact zero_el w)
 have HLze:Hid (ze.length=16):=Lib.hid (by rw [hze];rfl)
 obtain ⟨zp,hzp⟩:∃ zs:List Int,zs=List.replicate 64 0:=⟨_,rfl⟩
 have HZzp:Hid (∀ w,(zeroValue 102).run Tryd.prog w = .ok (.agg (arr .i64 zp)) w):=Lib.hid (by intro w;rw [hzp];exact zero_pt w)
 have HLzp:Hid (zp.length=64):=Lib.hid (by rw [hzp];rfl)
 have HEz:Hid (El ze 0):=Lib.hid (by rw [hze];exact el_zero)
 have HBE:Hid (∀ w,(Instr.build 100 #[]).run Tryd.prog w = .ok (.agg (arr .i64 ze)) w):=Lib.hid (by intro w;rw [hze];exact build_el0 w)
 have HS0:=Lib.hid (Blk.one w (arr .i64 zp) 102)
 clear hze hzp
 go_enter Tryd.func99, Tryd.ntmps99
 go_upto_region 1 with (first|((with_reducible refine aS 0 ?_);refine wpList_alloc_row rfl 102 rfl _ (HZzp.out _) ?_))
 (try simp only [Act.put,sA,sZ])
 generalize (w.alloc (.cells (arr .i64 zp) 102))=wb at HS0 ⊢
 go_wp2_with (first|((with_reducible refine aS 1 ?_);refine wpList_build (by rfl) 100 _ rfl #[] rfl _ (HBE.out _) ?_)|((with_reducible show Calls _ 101 #[_] _ _);go_at_call 101; refine (one_any 1 _ (by decide)).mono ?_;rintro e w301 ⟨z301,rfl,h301,hb301⟩;have HZ301:=Lib.hid h301;have HL301:=Lib.hid h301.1;clear h301;have HB301:=Lib.hid (HS0.out.kept hb301);clear hb301)|((with_reducible show Calls _ 101 #[_] _ _);go_at_call 101; refine (one_any 1 _ (by decide)).mono ?_;rintro e w302 ⟨z302,rfl,h302,hb302⟩;have HZ302:=Lib.hid h302;have HL302:=Lib.hid h302.1;clear h302;have HB302:=Lib.hid (HB301.out.kept hb302);clear hb302)|((with_reducible refine aS 4 ?_);refine wpList_build (by rfl) 100 _ rfl #[] rfl _ (HBE.out _) ?_)|((with_reducible refine aS 5 ?_);obtain ⟨v303,hv303⟩:∃ x,x=ze ++ z301 ++ z302 ++ ze:=⟨_,rfl⟩;have HR303:Hid (∀ w,(Instr.build 102 #[(0, .agg (arr .i64 ze)),(1, .agg (arr .i64 z301)),(2, .agg (arr .i64 z302)),(3, .agg (arr .i64 ze))]).run Tryd.prog w = .ok (.agg (arr .i64 v303)) w):=Lib.hid (fun w=>by rw [hv303];exact build_pt _ _ _ _ HLze.out HL301.out HL302.out HLze.out w);have HL303:Hid (v303.length=64):=Lib.hid (by rw [hv303];exact pt_len HLze.out HL301.out HL302.out HLze.out);have HV303:=Lib.hid hv303;clear hv303;refine wpList_build (by rfl) 102 _ rfl #[(0, .agg (arr .i64 ze)),(1, .agg (arr .i64 z301)),(2, .agg (arr .i64 z302)),(3, .agg (arr .i64 ze))] rfl _ (HR303.out _) ?_)|((with_reducible refine aT 0 (x:=(Operand.tmp 5)) ?_);refine wpList_store_whole rfl 102 _ _ rfl (w.heap.size) _ _ 102 (HB302.out.get 0 rfl) rfl rfl (arr_len2 _ _ HL303.out HLzp.out) (pt_s HL303.out) (all_arr _ _) ?_;intro w304 hb304 hk304 hz304;have HB304:=Lib.hid (HB302.out.put 0 rfl hk304 hb304);clear hb304 hk304 hz304))
 (try simp only [Exit.then])
 refine bodyPost_ret (results_cell_row rfl _ _ (w.heap.size) 102 _ (0,0) _ rfl (HB304.out.get 0 rfl) Tryd.underlying102 rfl (pt_s HL303.out)) rfl ?_
 exact ⟨_,rfl,⟨_,_,_,_,HV303.out,HEz.out,HZ301.out,HZ302.out,HEz.out⟩,HB304.out.below⟩
theorem base_any (w:World) (hX:TabX w) (hY:TabY w):Calls Tryd.prog 63 #[] w fun e w'=>∃ zs,e = .returned (.agg (arr .i64 zs))∧PtEl zs base∧Below w.heap.size w w':=by
 obtain ⟨zp,hzp⟩:∃ zs:List Int,zs=List.replicate 64 0:=⟨_,rfl⟩
 have HZzp:Hid (∀ w,(zeroValue 102).run Tryd.prog w = .ok (.agg (arr .i64 zp)) w):=Lib.hid (by intro w;rw [hzp];exact zero_pt w)
 have HLzp:Hid (zp.length=64):=Lib.hid (by rw [hzp];rfl)
 obtain ⟨xl,hxl⟩:∃ x,x=xL:=⟨_,rfl⟩
 obtain ⟨yl,hyl⟩:∃ x,x=yL:=⟨_,rfl⟩
 have HXe:Hid (El xl bx):=Lib.hid (by rw [hxl];exact xL_el)
 have HXl:=Lib.hid HXe.out.1
 have HYe:Hid (El yl bY):=Lib.hid (by rw [hyl];exact yL_el)
 have HYl:=Lib.hid HYe.out.1
 unfold TabX at hX
 unfold TabY at hY
 rw [← hxl] at hX
 rw [← hyl] at hY
 have HS0:=Lib.hid (Blk.one w (arr .i64 zp) 102)
 have HTX:=Lib.hid (range_below hX HS0.out.below)
 have HTY:=Lib.hid (range_below hY HS0.out.below)
 have HGX:Hid (¬ 1 = w.heap.size):=Lib.hid (by rw [hxl] at hX;exact Nat.ne_of_lt (range_lt hX))
 have HGY:Hid (¬ 2 = w.heap.size):=Lib.hid (by rw [hyl] at hY;exact Nat.ne_of_lt (range_lt hY))
 clear hzp hX hY hxl hyl
 go_enter Tryd.func63, Tryd.ntmps63
 go_upto_region 1 with (first|((with_reducible refine aS 0 ?_);refine wpList_alloc_row rfl 102 rfl _ (HZzp.out _) ?_))
 (try simp only [Act.put,sA,sZ])
 generalize (w.alloc (.cells (arr .i64 zp) 102))=wb at HS0 HTX HTY ⊢
 have HK0:=Lib.hid ((Kept.refl (fun x=>x=w.heap.size) wb).drew)
 have HBd:=Lib.hid (HS0.out.drew)
 refine wp_region_held_drew (S:=(fun w'=>Kept (fun x=>x=w.heap.size) wb w')) (by kernel_rfl) (HK0.out) (fun hHeld=>?_)
 generalize wb.drew=wd at HK0 HBd hHeld ⊢
 refine' wpAnyH_take (i:=0) (oi:=(⟨some 1,_,_,_,_,none⟩:Oper)) (v:=_) rfl (by kernel_rfl) (by kernel_rfl) (by kernel_rfl) (fun _ _ _ h=>h) (yieldsIf_load_mid (by rfl) _ _ rfl _ _ rfl (xl.map (Value.int .i64)) _ ?hS305 Tryd.underlying100 rfl (by rw [List.length_map];exact el_i HXl.out)) (by assumption) ?rest305
 case hS305=>(intro w hSw;(try dsimp only at hSw);exact range_kept HTX.out (hSw) (by first|exact HGX.out|exact HGY.out))
 (try simp only [Act.put,sA,sZ,sS])
 refine' wpAnyH_take (i:=1) (oi:=(⟨some 2,_,_,_,_,none⟩:Oper)) (v:=_) rfl (by kernel_rfl) (by kernel_rfl) (by kernel_rfl) (fun _ _ _ h=>h) (yieldsIf_load_mid (by rfl) _ _ rfl _ _ rfl (yl.map (Value.int .i64)) _ ?hS306 Tryd.underlying100 rfl (by rw [List.length_map];exact el_i HYl.out)) (by assumption) ?rest306
 case hS306=>(intro w hSw;(try dsimp only at hSw);exact range_kept HTY.out (hSw) (by first|exact HGX.out|exact HGY.out))
 (try simp only [Act.put,sA,sZ,sS])
 refine' wpAnyH_take (i:=3) (oi:=(⟨some 4,_,_,_,_,none⟩:Oper)) (v:=_) rfl (by kernel_rfl) (by kernel_rfl) (by kernel_rfl) (fun _ _ _ h=>h) (yieldsIf_load_mid (by rfl) _ _ rfl _ _ rfl (xl.map (Value.int .i64)) _ ?hS307 Tryd.underlying100 rfl (by rw [List.length_map];exact el_i HXl.out)) (by assumption) ?rest307
 case hS307=>(intro w hSw;(try dsimp only at hSw);exact range_kept HTX.out (hSw) (by first|exact HGX.out|exact HGY.out))
 (try simp only [Act.put,sA,sZ,sS])
 refine' wpAnyH_take (i:=4) (oi:=(⟨some 5,_,_,_,_,none⟩:Oper)) (v:=_) rfl (by kernel_rfl) (by kernel_rfl) (by kernel_rfl) (fun _ _ _ h=>h) (yieldsIf_load_mid (by rfl) _ _ rfl _ _ rfl (yl.map (Value.int .i64)) _ ?hS308 Tryd.underlying100 rfl (by rw [List.length_map];exact el_i HYl.out)) (by assumption) ?rest308
 case hS308=>(intro w hSw;(try dsimp only at hSw);exact range_kept HTY.out (hSw) (by first|exact HGX.out|exact HGY.out))
 (try simp only [Act.put,sA,sZ,sS])
 refine wpAnyH_ready (rs:=[2]) (by kernel_rfl) (by simp) ?_
 refine AllReadyH.cons (o:=(⟨some 3,_,_,_,_,none⟩:Oper)) rfl (fun K hK=>?_) AllReadyH.nil
 go_simp
 go_at_call 101
 refine (one_any 1 _ (by decide)).mono ?_
 rintro e w309 ⟨z309,rfl,h309,hb309⟩
 have HZ309:=Lib.hid h309
 have HL309:=Lib.hid h309.1
 clear h309
 have HB309:=Lib.hid (HBd.out.kept hb309)
 have HK309:=Lib.hid (HK0.out.trans (Kept.of_below hb309))
 clear hb309
 (try dsimp only)
 refine hK.out _ _ (HK309.out) (fun hHeld=>?_)
 clear hK K
 (try simp only [Act.put,sA,sZ,sS])
 refine wpAnyH_ready (rs:=[5]) (by kernel_rfl) (by simp) ?_
 refine AllReadyH.cons (o:=(⟨some 6,_,_,_,_,none⟩:Oper)) rfl (fun K hK=>?_) AllReadyH.nil
 go_simp
 go_at_call 98
 refine (mul_any _ _ _ _ _ HXe.out HYe.out).mono ?_
 rintro e w310 ⟨z310,rfl,h310,hb310⟩
 have HZ310:=Lib.hid h310
 have HL310:=Lib.hid h310.1
 clear h310
 have HB310:=Lib.hid (HB309.out.kept hb310)
 have HK310:=Lib.hid (HK309.out.trans (Kept.of_below hb310))
 clear hb310
 (try dsimp only)
 refine hK.out _ _ (HK310.out) (fun hHeld=>?_)
 clear hK K
 (try simp only [Act.put,sA,sZ,sS])
 obtain ⟨v312,hv312⟩:∃ x,x=xl ++ yl ++ z309 ++ z310:=⟨_,rfl⟩
 have HR312:Hid (∀ w,(Instr.build 102 #[(0, .agg (arr .i64 xl)),(1, .agg (arr .i64 yl)),(2, .agg (arr .i64 z309)),(3, .agg (arr .i64 z310))]).run Tryd.prog w = .ok (.agg (arr .i64 v312)) w):=Lib.hid (fun w=>by rw [hv312];exact build_pt _ _ _ _ HXl.out HYl.out HL309.out HL310.out w)
 have HL312:Hid (v312.length=64):=Lib.hid (by rw [hv312];exact pt_len HXl.out HYl.out HL309.out HL310.out)
 have HV312:=Lib.hid hv312
 clear hv312
 refine wpAnyH_take (i:=6) (oi:=(⟨some 7,_,_,_,_,none⟩:Oper)) (v:=(.agg (arr .i64 v312))) rfl (by kernel_rfl) (by kernel_rfl) (by kernel_rfl) (fun _ _ _ h=>h) (Or.inl ⟨by rfl,?hy311⟩) (by assumption) ?rest311
 case hy311=>(intro w hSw;(try dsimp only at hSw);exact exec_build 102 _ rfl #[(0, .agg (arr .i64 xl)),(1, .agg (arr .i64 yl)),(2, .agg (arr .i64 z309)),(3, .agg (arr .i64 z310))] rfl _ (HR312.out _))
 (try simp only [Act.put,sA,sZ,sS])
 refine wpAnyH_ready (rs:=[7]) (by kernel_rfl) (by simp) ?_
 refine AllReadyH.cons (o:=(⟨none,_,_,_,_,none⟩:Oper)) rfl (fun K hK=>?_) AllReadyH.nil
 refine step_store_whole rfl 102 (.tmp 0) (.tmp 7) rfl (w.heap.size) _ _ _ (HB310.out.get 0 rfl) rfl rfl (arr_len2 _ _ HL312.out HLzp.out) (pt_s HL312.out) (all_arr _ _) ?_
 intro w313 hb313 hk313 hz313
 have HB313:=Lib.hid (HB310.out.put 0 rfl hk313 hb313)
 have HK313:=Lib.hid (HK310.out.trans hk313)
 clear hb313 hk313 hz313
 refine hK.out _ _ (HK313.out) (fun hHeld=>?_)
 clear hK K
 (try simp only [Act.put])
 refine wpAnyH_done (by kernel_rfl) ?_ _
 have HBF:=HB313
 have HWF:=HL312
 have HF0:=HV312
 have HF1:=HXe
 have HF2:=HYe
 have HF3:=HZ309
 have HF4:=HZ310
 (try simp only [Exit.then])
 go_wp2_with fail
 refine bodyPost_ret (results_cell_row rfl _ _ (w.heap.size) 102 _ (0,0) _ rfl (HBF.out.get 0 rfl) Tryd.underlying102 rfl (pt_s HWF.out)) rfl ?_
 exact ⟨_,rfl,⟨_,_,_,_,HF0.out,HF1.out,HF2.out,HF3.out,HF4.out⟩,HBF.out.below⟩
theorem mul_next (P:Pt) (k n:Nat):emul P k (n+1)=if k / 2 ^ (255 - n) % 2=1 then eadd (eadd (emul P k n) (emul P k n)) P else eadd (emul P k n) (emul P k n):=rfl
theorem many_any (ps:List Int) (P:Pt) (v:Nat) (w:World) (hp:PtEl ps P) (hT:TabD w) :
  Calls Tryd.prog 62 #[.agg (arr .i64 ps), .agg (arr .u8 (nar (dig 256 32 v)))] w fun e w'=>∃ zs,e = .returned (.agg (arr .i64 zs))∧PtEl zs (emul P v 256)∧Below w.heap.size w w':=by
 obtain ⟨zp,hzp⟩:∃ zs:List Int,zs=List.replicate 64 0:=⟨_,rfl⟩
 have HZzp:Hid (∀ w,(zeroValue 102).run Tryd.prog w = .ok (.agg (arr .i64 zp)) w):=Lib.hid (by intro w;rw [hzp];exact zero_pt w)
 have HLzp:Hid (zp.length=64):=Lib.hid (by rw [hzp];rfl)
 obtain ⟨es,hes⟩:∃ x,x=nar (dig 256 32 v):=⟨_,rfl⟩
 rw [← hes]
 have HES:=Lib.hid hes
 have HEL:Hid (es.length=32):=Lib.hid (by rw [hes,nar_len,dig_len])
 have HX:=Lib.hid hp
 have HXL:=Lib.hid hp.len
 have HT:=Lib.hid hT
 have HS0:=Lib.hid (Blk.three w (arr .i64 ps) (arr .u8 es) (arr .i64 zp) 102 23 102)
 clear hzp hes hp hT
 go_enter Tryd.func62, Tryd.ntmps62
 go_wp2_with (first|((with_reducible refine aS 4 ?_);refine wpList_alloc_row rfl 102 rfl _ (HZzp.out _) ?_)|((with_reducible show Calls _ _ #[] _ _);go_at_call 99; refine (nought_any _).mono ?_;rintro e w1 ⟨z1,rfl,h1,hb1⟩;have HZ1:=Lib.hid h1;have HL1:=Lib.hid h1.len;have HB1:=Lib.hid (HS0.out.kept hb1);clear h1 hb1)|((with_reducible refine aS 5 ?_);refine wpList_alloc_row rfl 102 rfl _ (HZzp.out _) ?_;have HB2:=Lib.hid (HB1.out.alloc (arr .i64 zp) 102);generalize w1.heap.size=gx at HB2 ⊢)|((with_reducible refine aT 5 ?_);refine wpList_store_whole rfl 102 _ _ rfl (gx) _ _ 102 (HB2.out.get 3 rfl) rfl rfl (arr_len2 _ _ HL1.out HLzp.out) (pt_s HL1.out) (all_arr _ _) ?_;intro w3 hb3 hk3 hz3;have HB3:=Lib.hid (HB2.out.put 3 rfl hk3 hb3);clear hb3 hk3 hz3))
 go_loopw [6] (fun v' wr=>∃ n:Nat,n≤256∧v' = .int .i64 (255 - (n:Int))∧∃ cs:List Int,PtEl cs (emul P v n)∧Blk w wr [(w.heap.size,arr .i64 ps, 102),(w.heap.size+1,arr .u8 es, 23),(w.heap.size+1+1,arr .i64 zp, 102),(gx,arr .i64 cs, 102)]) (fun v' _=>(intOf v'+1).toNat)
 case atStart=>exact ⟨0,Nat.zero_le _,rfl,_,HZ1.out,HB3.out⟩
 clear HS0 HB1 HB2 HB3
 case round =>
 obtain ⟨n,hn,rfl,cs,hcs,hB⟩:=hrel
 by_cases hlt:n < 256
 ·obtain ⟨i,hi⟩:∃ i:Nat,i+n=255:=⟨255 - n,by omega⟩
  have hz:(255:Int) - (n:Int)=(i:Int):=by omega
  have hi2:i < 256:=by omega
  obtain ⟨y,hy,hy2,hbit⟩:=code_bit es v i HES.out hi2
  have hpn:=mul_next P v n
  rw [show 255 - n=i by omega] at hpn
  rw [hz]
  have HCS:=Lib.hid hcs
  have HCL:=Lib.hid hcs.len
  have HB:=Lib.hid hB
  have HI:=Lib.hid hi
  have HY:=Lib.hid hy
  clear hcs hB hy hz hi
  have q9:0≤(i:Int):=by omega
  rcases (show v / 2 ^ i % 2=0∨v / 2 ^ i % 2=1 by omega) with hb|hb
  ·rw [hb] at hbit
   rw [if_neg (by omega)] at hpn
   have hbit0:bits .and .u8 ((y:Int) / 2 ^ (i % 8)) 1=0:=hbit
   have HPN:=Lib.hid hpn
   clear hpn hb hbit
   go_wp2_with (first|((with_reducible refine aS 12 ?_);refine wpList_load_part rfl 102 _ rfl (gx) 0 _ 102 (0,0) _ (HB.out.get 3 rfl) rfl .i64 cs (arr_part _ _) Tryd.underlying102 rfl (pt_i HCL.out) ?_)|((with_reducible refine aS 13 ?_);refine wpList_load_part rfl 102 _ rfl (gx) 0 _ 102 (0,0) _ (HB.out.get 3 rfl) rfl .i64 cs (arr_part _ _) Tryd.underlying102 rfl (pt_i HCL.out) ?_)|((with_reducible show Calls _ _ #[.agg (arr _ cs), .agg (arr _ cs)] _ _);go_at_call 100; refine (sum_any _ _ _ _ _ HCS.out HCS.out (range_below HT.out HB.out.below)).mono ?_;rintro e w5 ⟨z5,rfl,h5,hb5⟩;have HZ5:=Lib.hid h5;have HL5:=Lib.hid h5.len;have HB5:=Lib.hid (HB.out.kept hb5);clear h5 hb5)|((with_reducible refine aT 5 ?_);refine wpList_store_whole rfl 102 _ _ rfl (gx) _ _ 102 (HB5.out.get 3 rfl) rfl rfl (arr_len2 _ _ HL5.out HCL.out) (pt_s HL5.out) (all_arr _ _) ?_;intro w6 hb6 hk6 hz6;have HB6:=Lib.hid (HB5.out.put 3 rfl hk6 hb6);have q1:=arr_get' (HB6.out.get 1 rfl) (i / 8) (by rw [HEL.out];omega);rw [HY.out] at q1;clear hb6 hk6 hz6))
   go_roundw
   case rel =>
    have e:=HI.out
    exact ⟨n+1,by omega,by congr 1;omega,_,by rw [HPN.out];exact HZ5.out,HB6.out⟩
   case measure=>simp [intOf]
  ·rw [if_pos hb] at hpn
   rw [hb] at hbit
   have hbit1:bits .and .u8 ((y:Int) / 2 ^ (i % 8)) 1=1:=hbit
   have HPN:=Lib.hid hpn
   clear hpn hb hbit
   go_wp2_with (first|((with_reducible refine aS 12 ?_);refine wpList_load_part rfl 102 _ rfl (gx) 0 _ 102 (0,0) _ (HB.out.get 3 rfl) rfl .i64 cs (arr_part _ _) Tryd.underlying102 rfl (pt_i HCL.out) ?_)|((with_reducible refine aS 13 ?_);refine wpList_load_part rfl 102 _ rfl (gx) 0 _ 102 (0,0) _ (HB.out.get 3 rfl) rfl .i64 cs (arr_part _ _) Tryd.underlying102 rfl (pt_i HCL.out) ?_)|((with_reducible show Calls _ _ #[.agg (arr _ cs), .agg (arr _ cs)] _ _);go_at_call 100; refine (sum_any _ _ _ _ _ HCS.out HCS.out (range_below HT.out HB.out.below)).mono ?_;rintro e w5 ⟨z5,rfl,h5,hb5⟩;have HZ5:=Lib.hid h5;have HL5:=Lib.hid h5.len;have HB5:=Lib.hid (HB.out.kept hb5);clear h5 hb5)|(with_reducible refine aT 5 (x:=(Operand.tmp 14)) ?_);((with_reducible refine aT 5 ?_);refine wpList_store_whole rfl 102 _ _ rfl (gx) _ _ 102 (HB5.out.get 3 rfl) rfl rfl (arr_len2 _ _ HL5.out HCL.out) (pt_s HL5.out) (all_arr _ _) ?_;intro w6 hb6 hk6 hz6;have HB6:=Lib.hid (HB5.out.put 3 rfl hk6 hb6);have q1:=arr_get' (HB6.out.get 1 rfl) (i / 8) (by rw [HEL.out];omega);rw [HY.out] at q1;clear hb6 hk6 hz6)|((with_reducible refine aS 25 ?_);refine wpList_load_part rfl 102 _ rfl (gx) 0 _ 102 (0,0) _ (HB6.out.get 3 rfl) rfl .i64 z5 (arr_part _ _) Tryd.underlying102 rfl (pt_i HL5.out) ?_)|((with_reducible refine aS 26 ?_);refine wpList_load_part rfl 102 _ rfl (w.heap.size) 0 _ 102 (0,0) _ (HB6.out.get 0 rfl) rfl .i64 ps (arr_part _ _) Tryd.underlying102 rfl (pt_i HXL.out) ?_)|((with_reducible show Calls _ _ #[.agg (arr _ z5), .agg (arr _ ps)] _ _);go_at_call 100; refine (sum_any _ _ _ _ _ HZ5.out HX.out (range_below HT.out HB6.out.below)).mono ?_;rintro e w7 ⟨z7,rfl,h7,hb7⟩;have HZ7:=Lib.hid h7;have HL7:=Lib.hid h7.len;have HB7:=Lib.hid (HB6.out.kept hb7);clear h7 hb7)|(with_reducible refine aT 5 (x:=(Operand.tmp 27)) ?_);((with_reducible refine aT 5 ?_);refine wpList_store_whole rfl 102 _ _ rfl (gx) _ _ 102 (HB7.out.get 3 rfl) rfl rfl (arr_len2 _ _ HL7.out HL5.out) (pt_s HL7.out) (all_arr _ _) ?_;intro w8 hb8 hk8 hz8;have HB8:=Lib.hid (HB7.out.put 3 rfl hk8 hb8);clear hb8 hk8 hz8))
   go_roundw
   case rel =>
    have e:=HI.out
    exact ⟨n+1,by omega,by congr 1;omega,_,by rw [HPN.out];exact HZ7.out,HB8.out⟩
   case measure=>simp [intOf]
 ·obtain rfl:n=256:=by omega
  have hz:(255:Int) - ((256:Nat):Int) = -1:=by omega
  rw [hz]
  have HCS:=Lib.hid hcs
  have HCL:=Lib.hid hcs.len
  have HB:=Lib.hid hB
  clear hcs hB hz
  go_wp2_with (first|((with_reducible refine aS 28 ?_);refine wpList_load_part rfl 102 _ rfl (gx) 0 _ 102 (0,0) _ (HB.out.get 3 rfl) rfl .i64 cs (arr_part _ _) Tryd.underlying102 rfl (pt_i HCL.out) ?_)|((with_reducible refine aT 4 ?_);refine wpList_store_whole rfl 102 _ _ rfl (w.heap.size+1+1) _ _ 102 (HB.out.get 2 rfl) rfl rfl (arr_len2 _ _ HCL.out HLzp.out) (pt_s HCL.out) (all_arr _ _) ?_;intro w8 hb8 hk8 hz8;have HB8:=Lib.hid (HB.out.put 2 rfl hk8 hb8);clear hb8 hk8 hz8))
  (try simp only [Exit.inBlock,Exit.then])
  refine bodyPost_ret (results_cell_row rfl _ _ (w.heap.size+1+1) 102 _ (0,0) _ rfl (HB8.out.get 2 rfl) Tryd.underlying102 rfl (pt_s HCL.out)) rfl ?_
  exact ⟨_,rfl,HCS.out,HB8.out.below⟩
end Go.Proofs.YtodnkallpfkdiaaDoor.Rd
namespace Go.Proofs.YtodnkallpfkdiaaDoor.Rd
open Go.RowKit Lm Fp Cu
theorem written_any (ps:List Int) (P:Pt) (w:World) (hp:PtEl ps P):Calls Tryd.prog 61 #[.agg (arr .i64 ps)] w fun e w'=>e = .returned (.agg (arr .u8 (nar (dig 256 32 (ebytes P)))))∧Below w.heap.size w w':=by
 have HmW:=Lib.hid hp.len
 obtain ⟨mx,my,mz,mt,hme,hmx,hmy,hmz,hmt⟩:=hp
 have Hmx:=Lib.hid hmx
 have HmxL:=Lib.hid hmx.1
 have Hmy:=Lib.hid hmy
 have HmyL:=Lib.hid hmy.1
 have Hmz:=Lib.hid hmz
 have HmzL:=Lib.hid hmz.1
 have Hmt:=Lib.hid hmt
 have HmtL:=Lib.hid hmt.1
 have hmP:=four_partL .i64 mx my mz mt 16 hmx.1 hmy.1 hmz.1 hmt.1
 rw [← hme] at hmP
 have HmP:=Lib.hid hmP
 clear hmx hmy hmz hmt hme hmP
 obtain ⟨X,hX⟩:∃ x,x=fmul P.x (finv P.z):=⟨_,rfl⟩
 obtain ⟨Y,hY⟩:∃ x,x=fmul P.y (finv P.z):=⟨_,rfl⟩
 have hYlt:Y < 2 ^ 255:=by rw [hY];exact Nat.lt_of_lt_of_le (fmul_lt _ _) (by decide +kernel)
 have hen:=enc_set Y (X % 2) hYlt (by omega)
 obtain ⟨ht1,ht2⟩:=top_byte Y hYlt
 have hlb:=low_byte X
 have heb:ebytes P=Y+2 ^ 255 * (X % 2):=by rw [hX,hY];rfl
 rw [heb,← hen]
 have hox:=fun xs w (h:El xs (fmul P.x (finv P.z)))=>out_any xs _ w h
 have hoy:=fun xs w (h:El xs (fmul P.y (finv P.z)))=>out_any xs _ w h
 rw [← hX] at hox
 rw [← hY] at hoy
 obtain ⟨bx8,hbx⟩:∃ x,x=nar (dig 256 32 X):=⟨_,rfl⟩
 obtain ⟨by8,hby⟩:∃ x,x=nar (dig 256 32 Y):=⟨_,rfl⟩
 have HBXL:Hid (bx8.length=32):=Lib.hid (by rw [hbx,nar_len,dig_len])
 have HBYL:Hid (by8.length=32):=Lib.hid (by rw [hby,nar_len,dig_len])
 have g0:bx8.getD 0 0=((X % 256:Nat):Int):=by rw [hbx,nar_get,hlb]
 have g1:by8.getD 31 0=((Y / 256 ^ 31:Nat):Int):=by rw [hby,nar_get,ht1]
 have hfin:by8.set 31 ((Y / 256 ^ 31+128 * (X % 2):Nat):Int)=nar ((dig 256 32 Y).set 31 (Y / 256 ^ 31+128 * (X % 2))):=by rw [nar_set,hby]
 rw [← hbx] at hox
 rw [← hby] at hoy
 rw [← hfin]
 have ha:=and1u (X % 256) (Nat.mod_lt _ (by decide))
 rw [Nat.mod_mod_of_dvd X (show 2 ∣ 256 by decide)] at ha
 generalize Y / 256 ^ 31=q at ht2 g1
 have hor:bits .or .u8 (q:Int) (((X % 2:Nat):Int) * 128)=((q+128 * (X % 2):Nat):Int):=by
  have h1:(BitVec.ofInt 8 (q:Int)).toNat=q:=by rw [BitVec.ofInt_natCast,BitVec.toNat_ofNat];exact Nat.mod_eq_of_lt (by omega)
  rcases (show X % 2=0∨X % 2=1 by omega) with h|h
  ·rw [h]
   show IntKind.u8.wrap ((BitVec.ofInt 8 (q:Int) ||| BitVec.ofInt 8 (((0:Nat):Int) * 128)).toNat:Int)=_
   rw [BitVec.toNat_or,h1,show (BitVec.ofInt 8 (((0:Nat):Int) * 128)).toNat=0 from by decide,Nat.or_zero,IntKind.wrap_u8]
   omega
  ·rw [h]
   show IntKind.u8.wrap ((BitVec.ofInt 8 (q:Int) ||| BitVec.ofInt 8 (((1:Nat):Int) * 128)).toNat:Int)=_
   have h3:q ||| 128=128+q:=by
    rw [Nat.or_comm]
    have:=Nat.two_pow_add_eq_or_of_lt (i:=7) (b:=q) (by omega) 1
    simpa using this.symm
   rw [BitVec.toNat_or,h1,show (BitVec.ofInt 8 (((1:Nat):Int) * 128)).toNat=128 from by decide,h3,IntKind.wrap_u8]
   omega
 obtain ⟨rs,hrs⟩:∃ r,r=by8.set 31 ((q+128 * (X % 2):Nat):Int):=⟨_,rfl⟩
 rw [← hrs]
 have HRL:Hid (rs.length=32):=Lib.hid (by rw [hrs,List.length_set];exact HBYL.out)
 have HRS:=Lib.hid hrs
 have HOX:=Lib.hid hox
 have HOY:=Lib.hid hoy
 have HOR:=Lib.hid hor
 have HA:=Lib.hid ha
 have HG0:=Lib.hid g0
 have HG1:=Lib.hid g1
 have HXE:=Lib.hid hX
 have HYE:=Lib.hid hY
 obtain ⟨ze,hze⟩:∃ zs:List Int,zs=List.replicate 16 0:=⟨_,rfl⟩
 have HZze:Hid (∀ w,(zeroValue 100).run Tryd.prog w = .ok (.agg (arr .i64 ze)) w):=Lib.hid (by intro w;rw [hze];exact zero_el w)
 have HLze:Hid (ze.length=16):=Lib.hid (by rw [hze];rfl)
 obtain ⟨zn,hzn⟩:∃ zs:List Int,zs=List.replicate 32 0:=⟨_,rfl⟩
 have HZzn:Hid (∀ w,(zeroValue 23).run Tryd.prog w = .ok (.agg (arr .u8 zn)) w):=Lib.hid (by intro w;rw [hzn];exact zero_num w)
 have HLzn:Hid (zn.length=32):=Lib.hid (by rw [hzn];rfl)
 have HS0:=Lib.hid (Blk.two w (arr .i64 ps) (arr .u8 zn) 102 23)
 clear hze hzn hen ht1 hlb heb hox hoy hbx hby hfin hor hrs ha g0 g1 hX hY hYlt
 go_enter Tryd.func61, Tryd.ntmps61
 go_upto_region 1 with (first|((with_reducible refine aS 2 ?_);refine wpList_alloc_row rfl 23 rfl _ (HZzn.out _) ?_))
 (try simp only [World.size_alloc,Act.put,sA,sZ,sS])
 generalize ((w.alloc (.cells (arr .i64 ps) 102)).alloc (.cells (arr .u8 zn) 23))=wb at HS0 ⊢
 go_upto_region 2 with (first|((with_reducible refine aS 7 ?_);refine wpList_load_part rfl 100 _ rfl (w.heap.size) (32) _ 102 (0,0) _ (HS0.out.get 0 rfl) rfl .i64 mz (HmP.out.2.2.1) Tryd.underlying100 rfl (el_i HmzL.out) ?_)|((with_reducible show Calls _ 96 #[.agg _] _ _);go_at_call 96; refine (inv_any _ _ _ Hmz.out).mono ?_;rintro e w501 ⟨z501,rfl,h501,hb501⟩;have HZ501:=Lib.hid h501;have HL501:=Lib.hid h501.1;clear h501;have HB501:=Lib.hid (HS0.out.kept hb501);clear hb501)|((with_reducible refine aS 3 ?_);refine wpList_alloc_row rfl 100 rfl _ (HZze.out _) ?_;have HB502:=Lib.hid (HB501.out.alloc (arr .i64 ze) 100);generalize w501.heap.size=g502 at HB502 ⊢; generalize w501.alloc (.cells (arr .i64 ze) 100)=w502 at HB502 ⊢)|((with_reducible refine aT 3 (x:=(Operand.tmp 8)) ?_);refine wpList_store_whole rfl 100 _ _ rfl (g502) _ _ 100 (HB502.out.get 2 rfl) rfl rfl (arr_len2 _ _ HL501.out HLze.out) (el_s HL501.out) (all_arr _ _) ?_;intro w503 hb503 hk503 hz503;have HB503:=Lib.hid (HB502.out.put 2 rfl hk503 hb503);clear hb503 hk503 hz503))
 go_upto_region 3 with (first|((with_reducible refine aS 10 ?_);refine wpList_load_part rfl 100 _ rfl (w.heap.size) (0) _ 102 (0,0) _ (HB503.out.get 0 rfl) rfl .i64 mx (HmP.out.1) Tryd.underlying100 rfl (el_i HmxL.out) ?_)|((with_reducible refine aS 11 ?_);refine wpList_load_part rfl 100 _ rfl (g502) (0) _ 100 (0,0) _ (HB503.out.get 2 rfl) rfl .i64 z501 (arr_part _ _) Tryd.underlying100 rfl (el_i HL501.out) ?_)|((with_reducible show Calls _ 98 #[.agg _, .agg _] _ _);go_at_call 98; refine (mul_any _ _ _ _ _ Hmx.out HZ501.out).mono ?_;rintro e w504 ⟨z504,rfl,h504,hb504⟩;have HZ504:=Lib.hid h504;have HL504:=Lib.hid h504.1;clear h504;have HB504:=Lib.hid (HB503.out.kept hb504);clear hb504)|((with_reducible show Calls _ 97 #[.agg _] _ _);go_at_call 97; refine (HOX.out _ _ (by rw [HXE.out];exact HZ504.out)).mono ?_;rintro e w505 ⟨rfl,hb505⟩;have HB505:=Lib.hid (HB504.out.kept hb505);clear hb505)|((with_reducible refine aS 4 ?_);refine wpList_alloc_row rfl 23 rfl _ (HZzn.out _) ?_;have HB506:=Lib.hid (HB505.out.alloc (arr .u8 zn) 23);generalize w505.heap.size=g506 at HB506 ⊢; generalize w505.alloc (.cells (arr .u8 zn) 23)=w506 at HB506 ⊢)|((with_reducible refine aT 4 (x:=(Operand.tmp 13)) ?_);refine wpList_store_whole rfl 23 _ _ rfl (g506) _ _ 23 (HB506.out.get 3 rfl) rfl rfl (arr_len2 _ _ HBXL.out HLzn.out) (num_s HBXL.out) (all_arr _ _) ?_;intro w507 hb507 hk507 hz507;have HB507:=Lib.hid (HB506.out.put 3 rfl hk507 hb507);clear hb507 hk507 hz507))
 go_upto_region 4 with (first|((with_reducible refine aS 15 ?_);refine wpList_load_part rfl 100 _ rfl (w.heap.size) (16) _ 102 (0,0) _ (HB507.out.get 0 rfl) rfl .i64 my (HmP.out.2.1) Tryd.underlying100 rfl (el_i HmyL.out) ?_)|((with_reducible refine aS 16 ?_);refine wpList_load_part rfl 100 _ rfl (g502) (0) _ 100 (0,0) _ (HB507.out.get 2 rfl) rfl .i64 z501 (arr_part _ _) Tryd.underlying100 rfl (el_i HL501.out) ?_)|((with_reducible show Calls _ 98 #[.agg _, .agg _] _ _);go_at_call 98; refine (mul_any _ _ _ _ _ Hmy.out HZ501.out).mono ?_;rintro e w508 ⟨z508,rfl,h508,hb508⟩;have HZ508:=Lib.hid h508;have HL508:=Lib.hid h508.1;clear h508;have HB508:=Lib.hid (HB507.out.kept hb508);clear hb508)|((with_reducible show Calls _ 97 #[.agg _] _ _);go_at_call 97; refine (HOY.out _ _ (by rw [HYE.out];exact HZ508.out)).mono ?_;rintro e w509 ⟨rfl,hb509⟩;have HB509:=Lib.hid (HB508.out.kept hb509);clear hb509)|((with_reducible refine aS 5 ?_);refine wpList_alloc_row rfl 23 rfl _ (HZzn.out _) ?_;have HB510:=Lib.hid (HB509.out.alloc (arr .u8 zn) 23);generalize w509.heap.size=g510 at HB510 ⊢; generalize w509.alloc (.cells (arr .u8 zn) 23)=w510 at HB510 ⊢)|((with_reducible refine aT 5 (x:=(Operand.tmp 18)) ?_);refine wpList_store_whole rfl 23 _ _ rfl (g510) _ _ 23 (HB510.out.get 4 rfl) rfl rfl (arr_len2 _ _ HBYL.out HLzn.out) (num_s HBYL.out) (all_arr _ _) ?_;intro w511 hb511 hk511 hz511;have HB511:=Lib.hid (HB510.out.put 4 rfl hk511 hb511);clear hb511 hk511 hz511))
 have q0:=arr_get' (HB511.out.get 3 rfl) 0 (by rw [HBXL.out];decide)
 have q1:=arr_get' (HB511.out.get 4 rfl) 31 (by rw [HBYL.out];decide)
 have q2:=free_blk (HB511.out.get 4 rfl) 31
 rw [HG0.out] at q0
 rw [HG1.out] at q1
 have hb1:=HB511.out.cell 4 rfl 31 (.int .u8 (bits .or .u8 (q:Int) (bits .and .u8 ((X % 256:Nat):Int) 1 * 128)))
 have e2:(arr .u8 by8).setIfInBounds 31 (.int .u8 (bits .or .u8 (q:Int) (bits .and .u8 ((X % 256:Nat):Int) 1 * 128)))=arr .u8 rs:=by rw [HA.out,HOR.out,arr_set,HRS.out]
 have HB9:=Lib.hid (hb1.cast (l':=[(w.heap.size,arr .i64 ps, 102),(w.heap.size+1,arr .u8 zn, 23),(g502,(arr .i64 z501), 100),(g506,(arr .u8 bx8), 23),(g510,arr .u8 rs, 23)]) (by rw [← e2];rfl))
 have hx2:bits .and .u8 ((X % 256:Nat):Int) 1=0∨bits .and .u8 ((X % 256:Nat):Int) 1=1:=by rw [HA.out];omega
 generalize X % 256=xq at q0 hx2 HB9
 clear hb1 e2
 go_wp2_with (first|((with_reducible refine aS 27 ?_);refine wpList_load_part rfl 23 _ rfl (g510) 0 _ 23 (0,0) _ (HB9.out.get 4 rfl) rfl .u8 rs (arr_part _ _) Tryd.underlying23 rfl (num_i HRL.out) ?_)|((with_reducible refine aT 2 ?_);refine wpList_store_whole rfl 23 _ _ rfl (w.heap.size+1) _ _ 23 (HB9.out.get 1 rfl) rfl rfl (arr_len2 _ _ HRL.out HLzn.out) (num_s HRL.out) (all_arr _ _) ?_;intro w10 hb10 hk10 hz10;have HB10:=Lib.hid (HB9.out.put 1 rfl hk10 hb10);clear hb10 hk10 hz10))
 (try simp only [Exit.then])
 refine bodyPost_ret (results_cell_row rfl _ _ (w.heap.size+1) 23 _ (0,0) _ rfl (HB10.out.get 1 rfl) Tryd.underlying23 rfl (num_s HRL.out)) rfl ?_
 exact ⟨by rw [HRS.out],HB10.out.below⟩
end Go.Proofs.YtodnkallpfkdiaaDoor.Rd
namespace Go.Proofs.YtodnkallpfkdiaaDoor.Rd
open Go.RowKit Lm Fp Cu
theorem clamped_any (v:Nat) (w:World) (hv:v < 2 ^ 256) :
  Calls Tryd.prog 95 #[.agg (arr .u8 (nar (dig 256 32 v)))] w fun e w'=>e = .returned (.agg (arr .u8 (nar (dig 256 32 (clamp v)))))∧Below w.heap.size w w':=by
 have hcs:=clamp_set v hv
 obtain ⟨t1,t2⟩:=top_byte256 v hv
 have l1:=low_byte v
 have g0:(nar (dig 256 32 v)).getD 0 0=((v % 256:Nat):Int):=by rw [nar_get,l1]
 have g31:(nar (dig 256 32 v)).getD 31 0=((v / 256 ^ 31:Nat):Int):=by rw [nar_get,t1]
 have a0:=and248 (v % 256) (Nat.mod_lt _ (by decide))
 have a1:=or64 (v / 256 ^ 31) t2
 have hfin:((nar (dig 256 32 v)).set 0 ((v % 256 / 8 * 8:Nat):Int)).set 31 ((v / 256 ^ 31 % 64+64:Nat):Int)=nar (dig 256 32 (clamp v)):=by rw [← nar_set,← nar_set,hcs]
 obtain ⟨ns,hns⟩:∃ x,x=nar (dig 256 32 v):=⟨_,rfl⟩
 obtain ⟨rs,hrs⟩:∃ x,x=nar (dig 256 32 (clamp v)):=⟨_,rfl⟩
 have HNL:Hid (ns.length=32):=Lib.hid (by rw [hns,nar_len,dig_len])
 have HRL:Hid (rs.length=32):=Lib.hid (by rw [hrs,nar_len,dig_len])
 rw [← hns] at g0 g31 hfin ⊢
 rw [← hrs] at hfin
 generalize v / 256 ^ 31=t at g31 a1 hfin t2
 generalize hx:v % 256=x at g0 a0 hfin
 have hx2:x < 256:=by omega
 obtain ⟨zn,hzn⟩:∃ zs:List Int,zs=List.replicate 32 0:=⟨_,rfl⟩
 have HZzn:Hid (∀ w,(zeroValue 23).run Tryd.prog w = .ok (.agg (arr .u8 zn)) w):=Lib.hid (by intro w;rw [hzn];exact zero_num w)
 have HLzn:Hid (zn.length=32):=Lib.hid (by rw [hzn];rfl)
 have HS0:=Lib.hid (Blk.two w (arr .u8 ns) (arr .u8 zn) 23 23)
 have e2:((arr .u8 ns).setIfInBounds 0 (.int .u8 (bits .and .u8 (x:Int) 248))).setIfInBounds 31 (.int .u8 (bits .or .u8 (bits .and .u8 (t:Int) 127) 64))=arr .u8 rs:=by rw [a0,a1,arr_set,arr_set,hfin]
 have HE2:=Lib.hid e2
 have HRS:=Lib.hid hrs
 have HG0:=Lib.hid g0
 have HG31:=Lib.hid g31
 clear hzn hns hrs hcs t1 l1 g0 g31 a0 a1 hfin e2 hx
 go_enter Tryd.func95, Tryd.ntmps95
 go_upto_region 1 with (first|((with_reducible refine aS 2 ?_);refine wpList_alloc_row rfl 23 rfl _ (HZzn.out _) ?_))
 (try simp only [World.size_alloc,Act.put,sA,sZ,sS])
 generalize ((w.alloc (.cells (arr .u8 ns) 23)).alloc (.cells (arr .u8 zn) 23))=wb at HS0 ⊢
 have q0:=arr_get' (HS0.out.get 0 rfl) 0 (by rw [HNL.out];decide)
 have q1:=arr_get' (HS0.out.get 0 rfl) 31 (by rw [HNL.out];decide)
 have q2:=free_blk (HS0.out.get 0 rfl) 0
 have q3:=free_blk (HS0.out.get 0 rfl) 31
 rw [HG0.out] at q0
 rw [HG31.out] at q1
 have hb1:=(HS0.out.cell 0 rfl 0 (.int .u8 (bits .and .u8 (x:Int) 248))).cell 0 rfl 31 (.int .u8 (bits .or .u8 (bits .and .u8 (t:Int) 127) 64))
 have HS1:=Lib.hid (hb1.cast (l':=[(w.heap.size,arr .u8 rs, 23),(w.heap.size+1,arr .u8 zn, 23)]) (by rw [← HE2.out];rfl))
 clear hb1
 go_upto_region 3 with fail
 go_wp2_with (first|((with_reducible refine aS 12 ?_);refine wpList_load_part rfl 23 _ rfl (w.heap.size) 0 _ 23 (0,0) _ (HS1.out.get 0 rfl) rfl .u8 rs (arr_part _ _) Tryd.underlying23 rfl (num_i HRL.out) ?_)|((with_reducible refine aT 2 ?_);refine wpList_store_whole rfl 23 _ _ rfl (w.heap.size+1) _ _ 23 (HS1.out.get 1 rfl) rfl rfl (arr_len2 _ _ HRL.out HLzn.out) (num_s HRL.out) (all_arr _ _) ?_;intro w3 hb3 hk3 hz3;have HB3:=Lib.hid (HS1.out.put 1 rfl hk3 hb3);clear hb3 hk3 hz3))
 (try simp only [Exit.then])
 refine bodyPost_ret (results_cell_row rfl _ _ (w.heap.size+1) 23 _ (0,0) _ rfl (HB3.out.get 1 rfl) Tryd.underlying23 rfl (num_s HRL.out)) rfl ?_
 exact ⟨by rw [HRS.out],HB3.out.below⟩
end Go.Proofs.YtodnkallpfkdiaaDoor.Rd
namespace Go.Proofs.YtodnkallpfkdiaaDoor.Rd
open Go.RowKit Lm Sc
theorem zero_33 (w:World):(zeroValue 200).run Tryd.prog w = .ok (.agg (arr .i64 (List.replicate 33 0))) w:=by kernel_rfl
theorem size_33:(Tryd.prog.info? 200).map (·.size)=some 33:=by kernel_rfl
theorem t33_s {xs:List Int} (h:xs.length=33):(Tryd.prog.info? 200).map (·.size)=some (arr .i64 xs).size:=by rw [arr_size,h];exact size_33
theorem t33_i {xs:List Int} (h:xs.length=33):(Tryd.prog.info? 200).map (·.size)=some xs.length:=by rw [h];exact size_33
def qL:List Int:=[0xed,0xd3,0xf5,0x5c,0x1a,0x63,0x12,0x58,0xd6,0x9c,0xf7,0xa2,0xde,0xf9,0xde,0x14,0,0,0,0,0,0,0,0,0,0,0,0,0,0,0,0x10]
theorem qL_eq:qL=nar (dig 256 32 q):=by decide +kernel
def TabQ (w:World):Prop:=∀ t,t < 32→w.cell? ⟨5, t,none⟩=some (.int .i64 (qL.getD t 0))
theorem TabQ.below {a b:World} (h:TabQ a) (k:Below a.heap.size a b):TabQ b:=fun t ht=>(Kept.of_below k (T:=fun _=>False)).cellX (h t ht) id
theorem q33 (k:Nat) (h:k < 33):(dig 256 33 q).getD k 0=if k < 32 then (dig 256 32 q).getD k 0 else 0:=by
 rw [dig_get _ _ _ _ h]
 split
 ·rename_i h2;rw [dig_get _ _ _ _ h2]
 ·obtain rfl:k=32:=by omega
  decide +kernel
theorem val33:val 256 (dig 256 33 q)=q:=by decide +kernel
theorem qL_get (k:Nat) (h:k < 32):qL.getD k 0=(((dig 256 33 q).getD k 0:Nat):Int):=by rw [q33 k (by omega),if_pos h,qL_eq,nar_get]
theorem sub33 (N S c:Nat) (h:S+q=N+256 ^ 33 * c) (hS:S < 256 ^ 33) (_hN:N < 256 ^ 33) (hc:c≤1):(c=1∧N < q)∨(c=0∧¬ N < q∧S=N - q):=by
 have hq:q < 256 ^ 33:=by decide +kernel
 rcases (show c=0∨c=1 by omega) with rfl|rfl
 ·right;omega
 ·left;omega
theorem less_any (N:Nat) (w:World) (hN:N < 256 ^ 33) (hT:TabQ w) :
  Calls Tryd.prog 159 #[.agg (arr .i64 (nar (dig 256 33 N)))] w fun e w'=>e = .returned (.agg (arr .i64 (nar (dig 256 33 (if N < q then N else N - q)))))∧Below w.heap.size w w':=by
 obtain ⟨rs,hrs⟩:∃ r,r=dig 256 33 N:=⟨_,rfl⟩
 have rl:rs.length=33:=by rw [hrs,dig_len]
 have rb:∀ x∈rs,x < 256:=by rw [hrs];exact dig_lt 256 (by decide) _ _
 have rv:val 256 rs=N:=by rw [hrs,val_dig,Nat.mod_eq_of_lt hN]
 obtain ⟨qs,hqs⟩:∃ r,r=dig 256 33 q:=⟨_,rfl⟩
 have ql:qs.length=33:=by rw [hqs,dig_len]
 have qb:∀ x∈qs,x < 256:=by rw [hqs];exact dig_lt 256 (by decide) _ _
 have qv:val 256 qs=q:=by rw [hqs];exact val33
 have qg:∀ k,k < 32→qL.getD k 0=((qs.getD k 0:Nat):Int):=fun k h=>by rw [hqs];exact qL_get k h
 have q32:qs.getD 32 0=0:=by rw [hqs,q33 32 (by decide),if_neg (by decide)]
 have hfin:=fun S c h1 h2 h3=>sub33 N S c h1 h2 hN h3
 rw [← hrs]
 obtain ⟨V,hV⟩:∃ V,V=if N < q then N else N - q:=⟨_,rfl⟩
 rw [← hV]
 have HV:=Lib.hid hV
 have RL:=Lib.hid rl
 have RB:=Lib.hid rb
 have RV:=Lib.hid rv
 have QL:=Lib.hid ql
 have QB:=Lib.hid qb
 have QV:=Lib.hid qv
 have QG:=Lib.hid qg
 have Q32:=Lib.hid q32
 have HF:=Lib.hid hfin
 have HT:=Lib.hid hT
 have HRS:=Lib.hid hrs
 obtain ⟨zr,hzr⟩:∃ zs:List Int,zs=List.replicate 33 0:=⟨_,rfl⟩
 have HZzr:Hid (∀ w,(zeroValue 200).run Tryd.prog w = .ok (.agg (arr .i64 zr)) w):=Lib.hid (by intro w;rw [hzr];exact zero_33 w)
 have HLzr:Hid (zr.length=33):=Lib.hid (by rw [hzr];rfl)
 obtain ⟨r0,hr0⟩:∃ x,x=nar rs:=⟨_,rfl⟩
 have HR0:Hid (r0=nar rs):=Lib.hid hr0
 have HRL:Hid (r0.length=33):=Lib.hid (by rw [hr0,nar_len,rl])
 rw [← hr0]
 have HSa:=Lib.hid (Blk.two w (arr .i64 r0) (arr .i64 zr) 200 200)
 clear hzr rl rb rv ql qb qv qg q32 hfin hT hrs hqs hr0 hV
 go_enter Tryd.func159, Tryd.ntmps159
 go_upto_region 1 with (first|((with_reducible refine aS 2 ?_);refine wpList_alloc_row rfl 200 rfl _ (HZzr.out _) ?_))
 (try simp only [World.size_alloc,Act.put,sA,sZ,sS])
 generalize ((w.alloc (.cells (arr .i64 r0) 200)).alloc (.cells (arr .i64 zr) 200))=wb at HSa ⊢
 go_wp2_with (first|((with_reducible refine aS 7 ?_);refine wpList_load_part rfl 200 _ rfl (w.heap.size) 0 _ 200 (0,0) _ (HSa.out.get 0 rfl) rfl .i64 r0 (arr_part _ _) Tryd.underlying200 rfl (t33_i HRL.out) ?_)|((with_reducible refine aS 3 ?_);refine wpList_alloc_row rfl 200 rfl _ (HZzr.out _) ?_;have HS0:=Lib.hid (HSa.out.alloc (arr .i64 zr) 200);generalize wb.heap.size=gm at HS0 ⊢; generalize wb.alloc (.cells (arr .i64 zr) 200)=wm at HS0 ⊢)|((with_reducible refine aT 3 ?_);refine wpList_store_whole rfl 200 _ _ rfl (gm) _ _ 200 (HS0.out.get 2 rfl) rfl rfl (arr_len2 _ _ HRL.out HLzr.out) (t33_s HRL.out) (all_arr _ _) ?_;intro w1 hb1 hk1 hz1;have HB1:=Lib.hid (HS0.out.put 2 rfl hk1 hb1);clear hb1 hk1 hz1))
 go_loopw [4,5,6] (fun cv kv xv wr=>∃ (k c:Nat) (ms:List Nat),k≤33∧kv = .int .i64 k∧cv = .int .i64 c∧c≤1∧ms.length=33∧(∀ x∈ms,x < 256)∧(∀ j,k≤j→ms.getD j 0=rs.getD j 0)∧val 256 (ms.take k)+val 256 (qs.take k)=val 256 (rs.take k)+256 ^ k * c∧Blk w wr [(w.heap.size,arr .i64 r0, 200),(w.heap.size+1,arr .i64 zr, 200),(gm,arr .i64 (nar ms), 200)]) (fun _ kv _ _=>33 - (intOf kv).toNat)
 case atStart=>exact ⟨0,0,rs,Nat.zero_le _,rfl,rfl,Nat.zero_le _,RL.out,RB.out,(fun _ _=>rfl),by simp [val],by rw [← HR0.out];exact HB1.out⟩
 clear HSa HS0 HB1
 case round =>
 obtain ⟨k,c,ms,hk,rfl,rfl,hc,hml,hmb,hmr,hv,hB⟩:=hrel
 by_cases hlt:k < 33
 ·have q0:=arr_get' (hB.get 0 rfl) k (by rw [HRL.out];exact hlt)
  have q2:=arr_get' (hB.get 2 rfl) k (by rw [nar_len,hml];exact hlt)
  have q3:=free_blk (hB.get 2 rfl) k
  rw [HR0.out,nar_get] at q0
  have r1:=lt_getD RB.out (by decide) k
  have y1:=lt_getD QB.out (by decide) k
  have st:=fun s c' hs=>sub_step 256 k _ _ _ (rs.getD k 0) (qs.getD k 0) c s c' hv hs
  have vm:=fun s=>val_take_set 256 ms k s (by omega)
  rw [← val_take_succ 256 qs k (by rw [QL.out];exact hlt),← val_take_succ 256 rs k (by rw [RL.out];exact hlt)] at st
  have hq32:k=32→qs.getD k 0=0:=fun e=>by rw [e];exact Q32.out
  have hqt:k < 32→wr.cell? ⟨5, k,none⟩=some (.int .i64 ((qs.getD k 0:Nat):Int)):=fun e=>by
   have:=HT.out.below hB.below k e
   rwa [QG.out k e] at this
  generalize rs.getD k 0=r at q0 r1 st
  generalize qs.getD k 0=y at y1 st hq32 hqt
  by_cases h32:k < 32
  ·by_cases hbr:r < y+c
   ·skip
    have qt:=hqt h32
    have hneg:(r:Int) - (c:Int) - (y:Int) < 0:=by omega
    have hst:=st (r+256 - c - y) 1 (by omega)
    rw [← vm] at hst
    have hb1:=hB.cell 2 rfl k (.int .i64 ((r:Int) - (c:Int) - (y:Int)+256))
    have e2:(arr .i64 (nar ms)).setIfInBounds k (.int .i64 ((r:Int) - (c:Int) - (y:Int)+256))=arr .i64 (nar (ms.set k (r+256 - c - y))):=by rw [show ((r:Int) - (c:Int) - (y:Int)+256)=(((r+256 - c - y):Nat):Int) by omega,arr_set,← nar_set]
    have HB1:=Lib.hid (hb1.cast (l':=[(w.heap.size,arr .i64 r0, 200),(w.heap.size+1,arr .i64 zr, 200),(gm,arr .i64 (nar (ms.set k (r+256 - c - y))), 200)]) (by rw [← e2];rfl))
    have HST:=Lib.hid hst
    have HML:Hid ((ms.set k (r+256 - c - y)).length=33):=Lib.hid (by rw [List.length_set,hml])
    have HMB:Hid (∀ x∈ms.set k (r+256 - c - y),x < 256):=Lib.hid (lt_set hmb _ _ (by omega))
    have HMR:Hid (∀ j,k+1≤j→(ms.set k (r+256 - c - y)).getD j 0=rs.getD j 0):=Lib.hid (by intro j hj;have e:=hmr j (by omega);simp only [List.getD] at e ⊢; rw [List.getElem?_set_ne (by omega)];exact e)
    clear hb1 e2 hst st vm hB hml hmb hmr hv hqt hq32
    go_wp2_with fail
    go_roundw
    case rel=>exact ⟨k+1,1,_,by omega,by go_num,rfl,by omega,HML.out,HMB.out,HMR.out,HST.out,HB1.out⟩
    case measure=>simp [intOf];omega
   ·skip
    have qt:=hqt h32
    have hneg:¬ (r:Int) - (c:Int) - (y:Int) < 0:=by omega
    have hst:=st (r - c - y) 0 (by omega)
    rw [← vm] at hst
    have hb1:=hB.cell 2 rfl k (.int .i64 ((r:Int) - (c:Int) - (y:Int)))
    have e2:(arr .i64 (nar ms)).setIfInBounds k (.int .i64 ((r:Int) - (c:Int) - (y:Int)))=arr .i64 (nar (ms.set k (r - c - y))):=by rw [show ((r:Int) - (c:Int) - (y:Int))=(((r - c - y):Nat):Int) by omega,arr_set,← nar_set]
    have HB1:=Lib.hid (hb1.cast (l':=[(w.heap.size,arr .i64 r0, 200),(w.heap.size+1,arr .i64 zr, 200),(gm,arr .i64 (nar (ms.set k (r - c - y))), 200)]) (by rw [← e2];rfl))
    have HST:=Lib.hid hst
    have HML:Hid ((ms.set k (r - c - y)).length=33):=Lib.hid (by rw [List.length_set,hml])
    have HMB:Hid (∀ x∈ms.set k (r - c - y),x < 256):=Lib.hid (lt_set hmb _ _ (by omega))
    have HMR:Hid (∀ j,k+1≤j→(ms.set k (r - c - y)).getD j 0=rs.getD j 0):=Lib.hid (by intro j hj;have e:=hmr j (by omega);simp only [List.getD] at e ⊢; rw [List.getElem?_set_ne (by omega)];exact e)
    clear hb1 e2 hst st vm hB hml hmb hmr hv hqt hq32
    go_wp2_with fail
    go_roundw
    case rel=>exact ⟨k+1,0,_,by omega,by go_num,rfl,by omega,HML.out,HMB.out,HMR.out,HST.out,HB1.out⟩
    case measure=>simp [intOf];omega
  ·by_cases hbr:r < y+c
   ·skip
    have y0:=hq32 (by omega)
    have hneg:(r:Int) - (c:Int) < 0:=by omega
    have hst:=st (r+256 - c - y) 1 (by omega)
    rw [← vm] at hst
    have hb1:=hB.cell 2 rfl k (.int .i64 ((r:Int) - (c:Int)+256))
    have e2:(arr .i64 (nar ms)).setIfInBounds k (.int .i64 ((r:Int) - (c:Int)+256))=arr .i64 (nar (ms.set k (r+256 - c - y))):=by rw [show ((r:Int) - (c:Int)+256)=(((r+256 - c - y):Nat):Int) by omega,arr_set,← nar_set]
    have HB1:=Lib.hid (hb1.cast (l':=[(w.heap.size,arr .i64 r0, 200),(w.heap.size+1,arr .i64 zr, 200),(gm,arr .i64 (nar (ms.set k (r+256 - c - y))), 200)]) (by rw [← e2];rfl))
    have HST:=Lib.hid hst
    have HML:Hid ((ms.set k (r+256 - c - y)).length=33):=Lib.hid (by rw [List.length_set,hml])
    have HMB:Hid (∀ x∈ms.set k (r+256 - c - y),x < 256):=Lib.hid (lt_set hmb _ _ (by omega))
    have HMR:Hid (∀ j,k+1≤j→(ms.set k (r+256 - c - y)).getD j 0=rs.getD j 0):=Lib.hid (by intro j hj;have e:=hmr j (by omega);simp only [List.getD] at e ⊢; rw [List.getElem?_set_ne (by omega)];exact e)
    clear hb1 e2 hst st vm hB hml hmb hmr hv hqt hq32
    go_wp2_with fail
    go_roundw
    case rel=>exact ⟨k+1,1,_,by omega,by go_num,rfl,by omega,HML.out,HMB.out,HMR.out,HST.out,HB1.out⟩
    case measure=>simp [intOf];omega
   ·skip
    have y0:=hq32 (by omega)
    have hneg:¬ (r:Int) - (c:Int) < 0:=by omega
    have hst:=st (r - c - y) 0 (by omega)
    rw [← vm] at hst
    have hb1:=hB.cell 2 rfl k (.int .i64 ((r:Int) - (c:Int)))
    have e2:(arr .i64 (nar ms)).setIfInBounds k (.int .i64 ((r:Int) - (c:Int)))=arr .i64 (nar (ms.set k (r - c - y))):=by rw [show ((r:Int) - (c:Int))=(((r - c - y):Nat):Int) by omega,arr_set,← nar_set]
    have HB1:=Lib.hid (hb1.cast (l':=[(w.heap.size,arr .i64 r0, 200),(w.heap.size+1,arr .i64 zr, 200),(gm,arr .i64 (nar (ms.set k (r - c - y))), 200)]) (by rw [← e2];rfl))
    have HST:=Lib.hid hst
    have HML:Hid ((ms.set k (r - c - y)).length=33):=Lib.hid (by rw [List.length_set,hml])
    have HMB:Hid (∀ x∈ms.set k (r - c - y),x < 256):=Lib.hid (lt_set hmb _ _ (by omega))
    have HMR:Hid (∀ j,k+1≤j→(ms.set k (r - c - y)).getD j 0=rs.getD j 0):=Lib.hid (by intro j hj;have e:=hmr j (by omega);simp only [List.getD] at e ⊢; rw [List.getElem?_set_ne (by omega)];exact e)
    clear hb1 e2 hst st vm hB hml hmb hmr hv hqt hq32
    go_wp2_with fail
    go_roundw
    case rel=>exact ⟨k+1,0,_,by omega,by go_num,rfl,by omega,HML.out,HMB.out,HMR.out,HST.out,HB1.out⟩
    case measure=>simp [intOf];omega
 ·obtain rfl:k=33:=by omega
  rw [List.take_of_length_le (Nat.le_of_eq hml),List.take_of_length_le (Nat.le_of_eq QL.out),List.take_of_length_le (Nat.le_of_eq RL.out),QV.out,RV.out] at hv
  have hS:=val_lt 256 ms hmb
  rw [hml] at hS
  have hdm:=dig_eq 256 (by decide) 33 _ ms hml hmb rfl
  have hml':(nar ms).length=33:=by rw [nar_len,hml]
  rcases HF.out _ c hv hS hc with ⟨rfl,h1⟩|⟨rfl,h1,h2⟩
  ·have HB:=Lib.hid hB
   have H1:=Lib.hid h1
   clear hB hv hS hmb hmr hdm hml hml' h1
   go_wp2_with (first|((with_reducible refine aS 33 ?_);refine wpList_load_part rfl 200 _ rfl (w.heap.size) 0 _ 200 (0,0) _ (HB.out.get 0 rfl) rfl .i64 r0 (arr_part _ _) Tryd.underlying200 rfl (t33_i HRL.out) ?_)|((with_reducible refine aT 2 ?_);refine wpList_store_whole rfl 200 _ _ rfl (w.heap.size+1) _ _ 200 (HB.out.get 1 rfl) rfl rfl (arr_len2 _ _ HRL.out HLzr.out) (t33_s HRL.out) (all_arr _ _) ?_;intro w7 hb7 hk7 hz7;have HB7:=Lib.hid (HB.out.put 1 rfl hk7 hb7);clear hb7 hk7 hz7))
   (try simp only [Exit.inBlock,Exit.then])
   refine bodyPost_ret (results_cell_row rfl _ _ (w.heap.size+1) 200 _ (0,0) _ rfl (HB7.out.get 1 rfl) Tryd.underlying200 rfl (t33_s HRL.out)) rfl ?_
   exact ⟨by rw [HR0.out,HRS.out,HV.out,if_pos H1.out],HB7.out.below⟩
  ·rw [h2] at hdm
   obtain ⟨m0,hm0⟩:∃ x,x=nar ms:=⟨_,rfl⟩
   rw [← hm0] at hB hml'
   have HB:=Lib.hid hB
   have H1:=Lib.hid h1
   have HML:=Lib.hid hml'
   have HM0:Hid (m0=nar (dig 256 33 (N - q))):=Lib.hid (by rw [hm0,← hdm])
   clear hB hv hS hmb hmr hdm hml hml' h1 h2 hm0
   go_wp2_with (first|((with_reducible refine aS 34 ?_);refine wpList_load_part rfl 200 _ rfl (gm) 0 _ 200 (0,0) _ (HB.out.get 2 rfl) rfl .i64 m0 (arr_part _ _) Tryd.underlying200 rfl (t33_i HML.out) ?_)|((with_reducible refine aT 2 ?_);refine wpList_store_whole rfl 200 _ _ rfl (w.heap.size+1) _ _ 200 (HB.out.get 1 rfl) rfl rfl (arr_len2 _ _ HML.out HLzr.out) (t33_s HML.out) (all_arr _ _) ?_;intro w7 hb7 hk7 hz7;have HB7:=Lib.hid (HB.out.put 1 rfl hk7 hb7);clear hb7 hk7 hz7))
   (try simp only [Exit.inBlock,Exit.then])
   refine bodyPost_ret (results_cell_row rfl _ _ (w.heap.size+1) 200 _ (0,0) _ rfl (HB7.out.get 1 rfl) Tryd.underlying200 rfl (t33_s HML.out)) rfl ?_
   exact ⟨by rw [HM0.out,HV.out,if_neg H1.out],HB7.out.below⟩
end Go.Proofs.YtodnkallpfkdiaaDoor.Rd
namespace Go.Proofs.YtodnkallpfkdiaaDoor.Rd
open Go.RowKit Lm Sc
theorem and1i (y:Nat) (h:y < 9223372036854775808):bits .and .i64 (y:Int) 1=((y % 2:Nat):Int):=by
 have e:y &&& 1=y % 2:=Nat.and_two_pow_sub_one_eq_mod y 1
 have h1:(BitVec.ofInt 64 (y:Int)).toNat=y:=by rw [BitVec.ofInt_natCast,BitVec.toNat_ofNat];exact Nat.mod_eq_of_lt (by omega)
 have h2:(BitVec.ofInt 64 (1:Int)).toNat=1:=by decide
 show IntKind.i64.wrap ((BitVec.ofInt 64 (y:Int) &&& BitVec.ofInt 64 (1:Int)).toNat:Int)=_
 rw [BitVec.toNat_and,h1,h2,e,IntKind.wrap_i64]
 omega
theorem and255i (x:Nat) (hx:x < 9223372036854775808):bits .and .i64 (x:Int) 255=((x % 256:Nat):Int):=by
 have e:x &&& 255=x % 256:=Nat.and_two_pow_sub_one_eq_mod x 8
 have h1:(BitVec.ofInt 64 (x:Int)).toNat=x:=by rw [BitVec.ofInt_natCast,BitVec.toNat_ofNat];exact Nat.mod_eq_of_lt (by omega)
 have h2:(BitVec.ofInt 64 (255:Int)).toNat=255:=by decide
 show IntKind.i64.wrap ((BitVec.ofInt 64 (x:Int) &&& BitVec.ofInt 64 (255:Int)).toNat:Int)=_
 rw [BitVec.toNat_and,h1,h2,e,IntKind.wrap_i64]
 omega
theorem code_bit64 (V k:Nat) (hk:k < 512):∃ y:Nat,(nar (dig 256 64 V)).getD (k / 8) 0=y∧y < 256∧bits .and .i64 ((y:Int) / 2 ^ (k % 8)) 1=((V / 2 ^ k % 2:Nat):Int):=by
 refine ⟨V / 256 ^ (k / 8) % 256,by rw [nar_get,dig_get _ _ _ _ (by omega)],Nat.mod_lt _ (by decide),?_⟩
 have e1:((V / 256 ^ (k / 8) % 256:Nat):Int) / 2 ^ (k % 8)=((V / 256 ^ (k / 8) % 256 / 2 ^ (k % 8):Nat):Int):=by
  rw [Int.natCast_ediv,Int.natCast_pow];rfl
 rw [e1,and1i _ (Nat.lt_of_le_of_lt (Nat.div_le_self _ _) (Nat.lt_trans (Nat.mod_lt _ (by decide)) (by decide))),bit_byte]
theorem dig33_zero:List.replicate 33 (0:Int)=nar (dig 256 33 0):=by decide +kernel
def lows (N i:Nat):List Int:=tb 32 fun j=>if j < i then ((N / 256 ^ j % 256:Nat):Int) else 0
theorem lows_zero (N:Nat):List.replicate 32 0=lows N 0:=by
 rw [tb_zero]
 exact tb_congr _ _ _ fun j _=>by rw [if_neg (by omega)]
theorem lows_step (N i:Nat):(lows N i).set i ((N / 256 ^ i % 256:Nat):Int)=lows N (i+1):=by
 rw [lows,tb_set]
 refine tb_congr _ _ _ fun j _=>?_
 by_cases e:j=i
 ·subst e;rw [if_pos rfl,if_pos (show j < j+1 by omega)]
 ·rw [if_neg e]
  by_cases e3:j < i
  ·rw [if_pos e3,if_pos (show j < i+1 by omega)]
  ·rw [if_neg e3,if_neg (show ¬ j < i+1 by omega)]
theorem lows_all (N:Nat):lows N 32=nar (dig 256 32 N):=by
 rw [tb_of 32 (nar (dig 256 32 N)) (by rw [nar_len,dig_len])]
 exact tb_congr _ _ _ fun j hj=>by rw [if_pos hj,nar_get,dig_get _ _ _ _ hj]
theorem dbl_lt (P b:Nat) (hP:P < q) (hb:b≤1):2 * P+b < 256 ^ 33:=by
 have hq:2 * q < 256 ^ 33:=by decide +kernel
 omega
theorem reduce_any (sa:Option Addr) (cp V:Nat) (w:World) (hs:Src w sa 64 (nar (dig 256 64 V))) (hV:V < 2 ^ 512) (hT:TabQ w) :
  Calls Tryd.prog 135 #[.slice sa 64 cp] w fun e w'=>e = .returned (.agg (arr .u8 (nar (dig 256 32 (V % q)))))∧Below w.heap.size w w':=by
 obtain ⟨ad,rfl, -⟩:=hs.cell 0 (by decide)
 have hcell:∀ i,i < 64→w.cell? (ad.add i)=some (.int .u8 ((nar (dig 256 64 V)).getD i 0)):=fun i hi=>by
  obtain ⟨a,h1,h2⟩:=hs.cell i hi
  cases h1
  exact h2
 have HCELL:=Lib.hid hcell
 have HT:=Lib.hid hT
 have HV:=Lib.hid hV
 obtain ⟨ro,hro⟩:∃ r,r=nar (dig 256 32 (V % q)):=⟨_,rfl⟩
 have HRO:Hid (lows (V % q) 32=ro):=Lib.hid (by rw [hro];exact lows_all _)
 have HROL:Hid (ro.length=32):=Lib.hid (by rw [hro,nar_len,dig_len])
 rw [← hro]
 obtain ⟨zn,hzn⟩:∃ zs:List Int,zs=List.replicate 32 0:=⟨_,rfl⟩
 have HZzn:Hid (∀ w,(zeroValue 23).run Tryd.prog w = .ok (.agg (arr .u8 zn)) w):=Lib.hid (by intro w;rw [hzn];exact zero_num w)
 have HLzn:Hid (zn.length=32):=Lib.hid (by rw [hzn];rfl)
 obtain ⟨zr,hzr⟩:∃ zs:List Int,zs=List.replicate 33 0:=⟨_,rfl⟩
 have HZzr:Hid (∀ w,(zeroValue 200).run Tryd.prog w = .ok (.agg (arr .i64 zr)) w):=Lib.hid (by intro w;rw [hzr];exact zero_33 w)
 have HLzr:Hid (zr.length=33):=Lib.hid (by rw [hzr];rfl)
 have HZ0:Hid (zr=nar (dig 256 33 0)):=Lib.hid (by rw [hzr];exact dig33_zero)
 have HZN:Hid (zn=lows (V % q) 0):=Lib.hid (by rw [hzn];exact lows_zero _)
 have HS0:=Lib.hid (Blk.two w (arr .u8 zn) (arr .i64 zr) 23 200)
 clear hzn hzr hs hcell hT hV hro
 go_enter Tryd.func135, Tryd.ntmps135
 go_upto_region 4 with (first|((with_reducible refine aS 2 ?_);refine wpList_alloc_row rfl 23 rfl _ (HZzn.out _) ?_)|((with_reducible refine aS 3 ?_);refine wpList_alloc_row rfl 200 rfl _ (HZzr.out _) ?_))
 (try simp only [World.size_alloc,Act.put,sA,sZ,sS])
 generalize w.heap.size+1=g3 at HS0 ⊢
 generalize ((w.alloc (.cells (arr .u8 zn) 23)).alloc (.cells (arr .i64 zr) 200))=wb at HS0 ⊢
 go_wp2_with fail
 go_loopw [4] (fun v wr=>∃ n:Nat,n≤512∧v = .int .i64 (511 - (n:Int))∧Blk w wr [(w.heap.size,arr .u8 zn, 23),(g3,arr .i64 (nar (dig 256 33 (upq V (512 - n)))), 200)]) (fun v _=>(intOf v+1).toNat)
 case atStart=>exact ⟨0,Nat.zero_le _,rfl,by rw [show 512 - 0=512 from rfl,upq_top V 512 HV.out,← HZ0.out];exact HS0.out⟩
 case round =>
 obtain ⟨n,hn,rfl,hB⟩:=hrel
 by_cases hlt:n < 512
 ·obtain ⟨i,hi⟩:∃ i:Nat,i+n=511:=⟨511 - n,by omega⟩
  have hz:(511:Int) - (n:Int)=(i:Int):=by omega
  have hi2:i < 512:=by omega
  obtain ⟨y,hy,hy2,hbit⟩:=code_bit64 V i hi2
  have q0:=below_cell hB.below (HCELL.out (i / 8) (by omega))
  rw [hy] at q0
  rw [show 512 - n=i+1 by omega] at hB
  rw [hz]
  have hps:=fun m=>upq_step V i m
  have hpl:=upq_lt V (i+1)
  generalize upq V (i+1)=P at hB hps hpl
  have hbl:V / 2 ^ i % 2≤1:=by omega
  generalize V / 2 ^ i % 2=b at hbit hps hbl
  obtain ⟨rs,hrs⟩:∃ r,r=dig 256 33 P:=⟨_,rfl⟩
  have hdl:=dbl_lt P b hpl hbl
  have rl:rs.length=33:=by rw [hrs,dig_len]
  have rb:∀ x∈rs,x < 256:=by rw [hrs];exact dig_lt 256 (by decide) _ _
  have rv:val 256 rs=P:=by rw [hrs,val_dig];exact Nat.mod_eq_of_lt (by omega)
  rw [← hrs] at hB
  have HB:=Lib.hid hB
  have HI:=Lib.hid hi
  have HPS:=Lib.hid hps
  have HDL:=Lib.hid hdl
  have RL:=Lib.hid rl
  have RB:=Lib.hid rb
  have RV:=Lib.hid rv
  have q9:0≤(i:Int):=by omega
  clear hB hy hz hi hps hpl hrs hdl rl rb rv
  go_wp2_with fail
  clear q0 hbit
  go_loopw [5,6] (fun cv kv wr2=>∃ (k c:Nat) (us:List Nat),k≤33∧kv = .int .i64 k∧cv = .int .i64 c∧c≤1∧us.length=33∧(∀ x∈us,x < 256)∧(∀ j,k≤j→us.getD j 0=rs.getD j 0)∧val 256 (us.take k)+256 ^ k * c=val 256 (rs.take k)+(val 256 (rs.take k)+b)∧Blk w wr2 [(w.heap.size,arr .u8 zn, 23),(g3,arr .i64 (nar us), 200)]) (fun _ kv _=>33 - (intOf kv).toNat)
  case atStart=>exact ⟨0,b,rs,Nat.zero_le _,rfl,rfl,hbl,RL.out,RB.out,(fun _ _=>rfl),by simp [val],HB.out⟩
  case round =>
   obtain ⟨k,c,us,hk,rfl,rfl,hc,hul,hub,hur,huv,hU⟩:=hrel
   by_cases hlk:k < 33
   ·have q2:=arr_get' (hU.get 1 rfl) k (by rw [nar_len,hul];exact hlk)
    have q3:=free_blk (hU.get 1 rfl) k
    rw [nar_get,hur k (Nat.le_refl _)] at q2
    have r1:=lt_getD RB.out (by decide) k
    have st:=fun s c' hs=>add_step 256 k _ _ _ (rs.getD k 0) (rs.getD k 0) c s c' huv hs
    have vm:=fun s=>val_take_set 256 us k s (by omega)
    have vr:=val_take_succ 256 rs k (by rw [RL.out];exact hlk)
    generalize rs.getD k 0=r at q2 r1 st vr
    have hst:=st ((2 * r+c) % 256) ((2 * r+c) / 256) (by omega)
    rw [← vm] at hst
    have hst2:val 256 ((us.set k ((2 * r+c) % 256)).take (k+1))+256 ^ (k+1) * ((2 * r+c) / 256)=val 256 (rs.take (k+1))+(val 256 (rs.take (k+1))+b):=by rw [hst,vr];omega
    have ha:=and255i (2 * r+c) (by omega)
    rw [show ((2 * r+c:Nat):Int)=2 * (r:Int)+(c:Int) by omega] at ha
    have hb1:=hU.cell 1 rfl k (.int .i64 (bits .and .i64 (2 * (r:Int)+(c:Int)) 255))
    have e2:(arr .i64 (nar us)).setIfInBounds k (.int .i64 (bits .and .i64 (2 * (r:Int)+(c:Int)) 255))=arr .i64 (nar (us.set k ((2 * r+c) % 256))):=by rw [ha,arr_set,← nar_set]
    have HU1:=Lib.hid (hb1.cast (l':=[(w.heap.size,arr .u8 zn, 23),(g3,arr .i64 (nar (us.set k ((2 * r+c) % 256))), 200)]) (by rw [← e2];rfl))
    have HST:=Lib.hid hst2
    have HUL:Hid ((us.set k ((2 * r+c) % 256)).length=33):=Lib.hid (by rw [List.length_set,hul])
    have HUB:Hid (∀ x∈us.set k ((2 * r+c) % 256),x < 256):=Lib.hid (lt_set hub _ _ (by omega))
    have HUR:Hid (∀ j,k+1≤j→(us.set k ((2 * r+c) % 256)).getD j 0=rs.getD j 0):=Lib.hid (by intro j hj;have e:=hur j (by omega);simp only [List.getD] at e ⊢; rw [List.getElem?_set_ne (by omega)];exact e)
    clear hb1 e2 hst hst2 st vm vr ha hU hul hub hur huv
    go_wp2_with fail
    go_roundw
    case rel=>exact ⟨k+1,(2 * r+c) / 256,_,by omega,by go_num,by go_num,by omega,HUL.out,HUB.out,HUR.out,HST.out,HU1.out⟩
    case measure=>simp [intOf];omega
   ·obtain rfl:k=33:=by omega
    rw [List.take_of_length_le (Nat.le_of_eq hul),List.take_of_length_le (Nat.le_of_eq RL.out),RV.out] at huv
    have hlv:=val_lt 256 us hub
    rw [hul] at hlv
    have hdl:=HDL.out
    have hc0:c=0:=by
     rcases (show c=0∨c=1 by omega) with h|h
     ·exact h
     ·subst h;omega
    subst hc0
    have hdig:=dig_eq 256 (by decide) 33 (2 * P+b) us hul hub (by omega)
    have hl:=fun w h=>less_any (2 * P+b) w hdl h
    rw [HPS.out _ rfl,← hdig] at hl
    have hul':(nar us).length=33:=by rw [nar_len,hul]
    have HTb:=Lib.hid (HT.out.below hU.below)
    obtain ⟨u0,hu0⟩:∃ x,x=nar us:=⟨_,rfl⟩
    rw [← hu0] at hU hl hul'
    obtain ⟨v0,hv0⟩:∃ x,x=nar (dig 256 33 (upq V i)):=⟨_,rfl⟩
    rw [← hv0] at hl
    have HL:=Lib.hid hl
    have HUL:=Lib.hid hul'
    have HU:=Lib.hid hU
    have HVL:Hid (v0.length=33):=Lib.hid (by rw [hv0,nar_len,dig_len])
    have HV0:=Lib.hid hv0
    clear hU hul hub hur huv hlv hdl hc hdig hl hul' hu0 hv0 HB
    go_wp2_with (first|((with_reducible refine aS 50 ?_);refine wpList_load_part rfl 200 _ rfl (g3) 0 _ 200 (0,0) _ (HU.out.get 1 rfl) rfl .i64 u0 (arr_part _ _) Tryd.underlying200 rfl (t33_i HUL.out) ?_)|((with_reducible show Calls _ 159 _ _ _);go_at_call 159; refine (HL.out _ HTb.out).mono ?_;rintro e w6 ⟨rfl,hb6⟩;have HU6:=Lib.hid (HU.out.kept hb6);clear hb6)|((with_reducible refine aT 3 ?_);refine wpList_store_whole rfl 200 _ _ rfl (g3) _ _ 200 (HU6.out.get 1 rfl) rfl rfl (arr_len2 _ _ HVL.out HUL.out) (t33_s HVL.out) (all_arr _ _) ?_;intro w7 hb7 hk7 hz7;have HU7:=Lib.hid (HU6.out.put 1 rfl hk7 hb7);clear hb7 hk7 hz7))
    go_roundw
    case rel =>
     have e:=HI.out
     exact ⟨n+1,by omega,by congr 1;omega,by rw [show 512 - (n+1)=i by omega,← HV0.out];exact HU7.out⟩
    case measure=>simp [intOf]
 ·obtain rfl:n=512:=by omega
  rw [show 512 - 512=0 from rfl,upq_zero] at hB
  have hz:(511:Int) - ((512:Nat):Int) = -1:=by omega
  rw [hz]
  have rl:(nar (dig 256 33 (V % q))).length=33:=by rw [nar_len,dig_len]
  have rg:∀ j,j < 32→(nar (dig 256 33 (V % q))).getD j 0=((V % q / 256 ^ j % 256:Nat):Int):=fun j hj=>by rw [nar_get,dig_get _ _ _ _ (by omega)]
  have HB:=Lib.hid (hB.alloc (arr .u8 zn) 23)
  generalize nar (dig 256 33 (V % q))=r0 at rl rg HB
  have RL:=Lib.hid rl
  have RG:=Lib.hid rg
  clear hz hB rl rg HS0
  go_wp2_with (first|((with_reducible refine aS 8 ?_);refine wpList_alloc_row rfl 23 rfl _ (HZzn.out _) ?_))
  generalize wr.heap.size=gn at HB ⊢
  go_loopw [9] (fun v wq=>∃ j:Nat,j≤32∧v = .int .i64 j∧∃ os:List Int,os=lows (V % q) j∧Blk w wq [(w.heap.size,arr .u8 zn, 23),(g3,arr .i64 r0, 200),(gn,arr .u8 os, 23)]) (fun v _=>32 - (intOf v).toNat)
  case atStart=>exact ⟨0,Nat.zero_le _,rfl,_,HZN.out,HB.out⟩
  case round =>
   obtain ⟨j,hj,rfl,os,hos,hQ⟩:=hrel
   have ol:os.length=32:=by rw [hos];exact tb_len _ _
   by_cases hlo:j < 32
   ·have q0:=arr_get' (hQ.get 1 rfl) j (by rw [RL.out];omega)
    have q2:=arr_get' (hQ.get 2 rfl) j (by rw [ol];omega)
    have q3:=free_blk (hQ.get 2 rfl) j
    rw [RG.out j hlo] at q0
    have st:=lows_step (V % q) j
    have hz2:V % q / 256 ^ j % 256 < 256:=Nat.mod_lt _ (by decide)
    generalize V % q / 256 ^ j % 256=z at q0 st hz2
    have hb1:=hQ.cell 2 rfl j (.int .u8 (z:Int))
    have e2:(arr .u8 os).setIfInBounds j (.int .u8 (z:Int))=arr .u8 (lows (V % q) (j+1)):=by rw [arr_set,hos,st]
    have HQ1:=Lib.hid (hb1.cast (l':=[(w.heap.size,arr .u8 zn, 23),(g3,arr .i64 r0, 200),(gn,arr .u8 (lows (V % q) (j+1)), 23)]) (by rw [← e2];rfl))
    clear hb1 e2 hos hQ st ol
    go_wp2_with fail
    go_roundw
    case rel=>exact ⟨j+1,by omega,by go_num,_,rfl,HQ1.out⟩
    case measure=>simp [intOf];omega
   ·obtain rfl:j=32:=by omega
    rw [HRO.out] at hos
    subst hos
    have HQ:=Lib.hid hQ
    have HOL:=Lib.hid ol
    clear hQ ol HB
    go_wp2_with (first|((with_reducible refine aS 62 ?_);refine wpList_load_part rfl 23 _ rfl (gn) 0 _ 23 (0,0) _ (HQ.out.get 2 rfl) rfl .u8 os (arr_part _ _) Tryd.underlying23 rfl (num_i HOL.out) ?_)|((with_reducible refine aT 2 ?_);refine wpList_store_whole rfl 23 _ _ rfl (w.heap.size) _ _ 23 (HQ.out.get 0 rfl) rfl rfl (arr_len2 _ _ HOL.out HLzn.out) (num_s HOL.out) (all_arr _ _) ?_;intro w8 hb8 hk8 hz8;have HQ8:=Lib.hid (HQ.out.put 0 rfl hk8 hb8);clear hb8 hk8 hz8))
    (try simp only [Exit.inBlock,Exit.then])
    refine bodyPost_ret (results_cell_row rfl _ _ (w.heap.size) 23 _ (0,0) _ rfl (HQ8.out.get 0 rfl) Tryd.underlying23 rfl (num_s HOL.out)) rfl ?_
    exact ⟨rfl,HQ8.out.below⟩
end Go.Proofs.YtodnkallpfkdiaaDoor.Rd
namespace Go.Proofs.YtodnkallpfkdiaaDoor.Rd
open Go.RowKit Lm Sc
theorem zero_b64 (w:World):(zeroValue 25).run Tryd.prog w = .ok (.agg (arr .u8 (List.replicate 64 0))) w:=by kernel_rfl
theorem src_arr' {w:World} {g:Nat} {xs:List Int} {t:TypeId} {fr:Nat×Nat} (h:w.heap[g]? = some (.cells (arr .u8 xs) t fr)) (m:Nat) (hm:xs.length=m):Src w (some ⟨g,0,none⟩) m xs :=
 src_row h (by rw [arr_toList,Nat.mul_one,List.take_of_length_le (by rw [List.length_map];exact Nat.le_refl _)]) hm
theorem lt_pow {a b:Nat} (ha:a < 256 ^ 32) (hb:b < 256 ^ 32) (n:Nat) (hn:257≤n):a+b < 2 ^ n:=by
 obtain ⟨k,rfl⟩:∃ k,n=256+(k+1):=⟨n - 257,by omega⟩
 rw [Nat.pow_add]
 have h2:2≤2 ^ (k+1):=by
  rw [Nat.pow_succ]
  have:=Nat.one_le_two_pow (n:=k)
  omega
 exact Nat.lt_of_lt_of_le (Nat.add_lt_add ha hb) (Nat.le_trans (show 256 ^ 32+256 ^ 32≤2 ^ 256 * 2 by decide) (Nat.mul_le_mul_left _ h2))
theorem dig33_of32 (A k:Nat) (hA:A < 256 ^ 32) (hk:k < 33):(dig 256 33 A).getD k 0=if k < 32 then (dig 256 32 A).getD k 0 else 0:=by
 rw [dig_get _ _ _ _ hk]
 split
 ·rename_i h;rw [dig_get _ _ _ _ h]
 ·obtain rfl:k=32:=by omega
  rw [Nat.div_eq_of_lt hA]
theorem val_tail (n k:Nat) (xs:List Nat) (hl:xs.length=n) (hk:k≤n) (hz:∀ j,k≤j→xs.getD j 0=0):val 256 xs=val 256 (xs.take k):=by
 have e:xs=xs.take k ++ xs.drop k:=(List.take_append_drop k xs).symm
 have hd:xs.drop k=List.replicate (n - k) 0:=by
  apply List.ext_getElem
  ·simp [hl]
  ·intro i h1 h2
   have:=hz (k+i) (by omega)
   simp only [List.length_drop] at h1
   rw [List.getD,List.getElem?_eq_getElem (by omega)] at this
   simpa using this
 rw [e,val_append,hd,val_zeros,Nat.mul_zero,Nat.add_zero,← hd,← e]
theorem addq_any (a b:Nat) (w:World) (ha:a < 256 ^ 32) (hb:b < 256 ^ 32) (hT:TabQ w) :
  Calls Tryd.prog 90 #[.agg (arr .u8 (nar (dig 256 32 a))), .agg (arr .u8 (nar (dig 256 32 b)))] w fun e w'=>e = .returned (.agg (arr .u8 (nar (dig 256 32 ((a+b) % q)))))∧Below w.heap.size w w':=by
 have hred:=fun w' ad cp (hs:Src w' ad 64 (nar (dig 256 64 (a+b)))) hT'=>reduce_any ad cp (a+b) w' hs (lt_pow ha hb 512 (by decide)) hT'
 obtain ⟨xs,hxs⟩:∃ r,r=dig 256 33 a:=⟨_,rfl⟩
 obtain ⟨ys,hys⟩:∃ r,r=dig 256 33 b:=⟨_,rfl⟩
 have XL:Hid (xs.length=33):=Lib.hid (by rw [hxs,dig_len])
 have YL:Hid (ys.length=33):=Lib.hid (by rw [hys,dig_len])
 have XB:Hid (∀ x∈xs,x < 256):=Lib.hid (by rw [hxs];exact dig_lt 256 (by decide) _ _)
 have YB:Hid (∀ x∈ys,x < 256):=Lib.hid (by rw [hys];exact dig_lt 256 (by decide) _ _)
 have XV:Hid (val 256 xs=a):=Lib.hid (by rw [hxs,val_dig];exact Nat.mod_eq_of_lt (Nat.lt_of_lt_of_le ha (by decide)))
 have YV:Hid (val 256 ys=b):=Lib.hid (by rw [hys,val_dig];exact Nat.mod_eq_of_lt (Nat.lt_of_lt_of_le hb (by decide)))
 have XG:Hid (∀ k,k < 33→(if k < 32 then (dig 256 32 a).getD k 0 else 0)=xs.getD k 0):=Lib.hid (fun k h=>by rw [hxs];exact (dig33_of32 a k ha h).symm)
 have YG:Hid (∀ k,k < 33→(if k < 32 then (dig 256 32 b).getD k 0 else 0)=ys.getD k 0):=Lib.hid (fun k h=>by rw [hys];exact (dig33_of32 b k hb h).symm)
 have HAB:Hid (a+b < 256 ^ 33):=Lib.hid (Nat.lt_of_lt_of_le (Nat.add_lt_add ha hb) (by decide))
 obtain ⟨x0,hx0⟩:∃ r,r=nar (dig 256 32 a):=⟨_,rfl⟩
 obtain ⟨y0,hy0⟩:∃ r,r=nar (dig 256 32 b):=⟨_,rfl⟩
 have X0L:Hid (x0.length=32):=Lib.hid (by rw [hx0,nar_len,dig_len])
 have Y0L:Hid (y0.length=32):=Lib.hid (by rw [hy0,nar_len,dig_len])
 have X0G:Hid (∀ k,x0.getD k 0=(((dig 256 32 a).getD k 0:Nat):Int)):=Lib.hid (fun k=>by rw [hx0,nar_get])
 have Y0G:Hid (∀ k,y0.getD k 0=(((dig 256 32 b).getD k 0:Nat):Int)):=Lib.hid (fun k=>by rw [hy0,nar_get])
 rw [← hx0,← hy0]
 obtain ⟨ro,hro⟩:∃ r,r=nar (dig 256 32 ((a+b) % q)):=⟨_,rfl⟩
 have HROL:Hid (ro.length=32):=Lib.hid (by rw [hro,nar_len,dig_len])
 rw [← hro] at hred ⊢
 obtain ⟨so,hso⟩:∃ r,r=nar (dig 256 64 (a+b)):=⟨_,rfl⟩
 have HS64:Hid (so.length=64):=Lib.hid (by rw [hso,nar_len,dig_len])
 have HSO:=Lib.hid hso
 rw [← hso] at hred
 have HRED:Hid (∀ (w':World) {ad:Option Addr} {cp:Nat},Src w' ad 64 so→TabQ w'→Calls Tryd.prog 135 #[.slice ad 64 cp] w' fun e w''=>e = .returned (.agg (arr .u8 ro))∧Below w'.heap.size w' w''):=Lib.hid (fun w' ad cp h1 h2=>hred w' ad cp h1 h2)
 have HT:=Lib.hid hT
 obtain ⟨zn,hzn⟩:∃ zs:List Int,zs=List.replicate 32 0:=⟨_,rfl⟩
 have HZzn:Hid (∀ w,(zeroValue 23).run Tryd.prog w = .ok (.agg (arr .u8 zn)) w):=Lib.hid (by intro w;rw [hzn];exact zero_num w)
 have HLzn:Hid (zn.length=32):=Lib.hid (by rw [hzn];rfl)
 obtain ⟨zs,hzs⟩:∃ zs:List Int,zs=List.replicate 64 0:=⟨_,rfl⟩
 have HZzs:Hid (∀ w,(zeroValue 25).run Tryd.prog w = .ok (.agg (arr .u8 zs)) w):=Lib.hid (by intro w;rw [hzs];exact zero_b64 w)
 have HLzs:Hid (zs.length=64):=Lib.hid (by rw [hzs];rfl)
 have HZS:Hid (zs=nar (List.replicate 64 0)):=Lib.hid (by rw [hzs,nar_zeros])
 have HS0:=Lib.hid (Blk.four w (arr .u8 x0) (arr .u8 y0) (arr .u8 zn) (arr .u8 zs) 23 23 23 25)
 clear hzn hzs hred hxs hys hx0 hy0 hro hso hT ha hb
 go_enter Tryd.func90, Tryd.ntmps90
 go_wp2_with (first|((with_reducible refine aS 4 ?_);refine wpList_alloc_row rfl 23 rfl _ (HZzn.out _) ?_)|((with_reducible refine aS 5 ?_);refine wpList_alloc_row rfl 25 rfl _ (HZzs.out _) ?_))
 go_loopw [6,7] (fun cv iv wr=>∃ (i c:Nat) (ss:List Nat),i≤33∧iv = .int .i64 i∧cv = .int .i64 c∧c≤1∧ss.length=64∧(∀ x∈ss,x < 256)∧(∀ j,i≤j→ss.getD j 0=0)∧val 256 (ss.take i)+256 ^ i * c=val 256 (xs.take i)+val 256 (ys.take i)∧Blk w wr [(w.heap.size,arr .u8 x0, 23),(w.heap.size+1,arr .u8 y0, 23),(w.heap.size+1+1,arr .u8 zn, 23),(w.heap.size+1+1+1,arr .u8 (nar ss), 25)]) (fun _ iv _=>33 - (intOf iv).toNat)
 case atStart=>exact ⟨0,0,List.replicate 64 0,Nat.zero_le _,rfl,rfl,Nat.zero_le _,by simp,by simp,(fun k _=>by simp only [List.getD,List.getElem?_replicate];split <;> rfl),by simp [val],by rw [← HZS.out];exact HS0.out⟩
 clear HS0
 case round =>
 obtain ⟨i,c,ss,hi,rfl,rfl,hc,hsl,hsb,hsz,hv,hB⟩:=hrel
 by_cases hlt:i < 33
 ·have q2:=arr_get' (hB.get 3 rfl) i (by rw [nar_len,hsl];omega)
  have q3:=free_blk (hB.get 3 rfl) i
  have x1:=lt_getD XB.out (by decide) i
  have y1:=lt_getD YB.out (by decide) i
  have st:=fun s c' hs=>add_step 256 i _ _ _ (xs.getD i 0) (ys.getD i 0) c s c' hv hs
  have vm:=fun s=>val_take_set 256 ss i s (by omega)
  rw [← val_take_succ 256 xs i (by rw [XL.out];exact hlt),← val_take_succ 256 ys i (by rw [YL.out];exact hlt)] at st
  have xg:=XG.out i hlt
  have yg:=YG.out i hlt
  have q0:i < 32→wr.cell? ⟨w.heap.size,i,none⟩=some (.int .u8 ((xs.getD i 0:Nat):Int)):=fun e=>by
   rw [arr_get' (hB.get 0 rfl) i (by rw [X0L.out];exact e),X0G.out,← xg,if_pos e]
  have q1:i < 32→wr.cell? ⟨w.heap.size+1,i,none⟩=some (.int .u8 ((ys.getD i 0:Nat):Int)):=fun e=>by
   rw [arr_get' (hB.get 1 rfl) i (by rw [Y0L.out];exact e),Y0G.out,← yg,if_pos e]
  have xz:¬ i < 32→xs.getD i 0=0:=fun e=>by rw [← xg,if_neg e]
  have yz:¬ i < 32→ys.getD i 0=0:=fun e=>by rw [← yg,if_neg e]
  clear xg yg
  generalize xs.getD i 0=x at q0 x1 st xz
  generalize ys.getD i 0=y at q1 y1 st yz
  by_cases h32:i < 32
  ·skip
   have q0:=q0 h32
   have q1:=q1 h32
   have ha:=and255i (x+y+c) (by omega)
   rw [show ((x+y+c:Nat):Int)=(c:Int)+(x:Int)+(y:Int) by omega] at ha
   have hst:=st ((x+y+c) % 256) ((x+y+c) / 256) (by omega)
   rw [← vm] at hst
   have hb1:=hB.cell 3 rfl i (.int .u8 (bits .and .i64 ((c:Int)+(x:Int)+(y:Int)) 255 % 256))
   have e2:(arr .u8 (nar ss)).setIfInBounds i (.int .u8 (bits .and .i64 ((c:Int)+(x:Int)+(y:Int)) 255 % 256))=arr .u8 (nar (ss.set i ((x+y+c) % 256))):=by rw [ha,show (((((x+y+c) % 256):Nat):Int) % 256)=((((x+y+c) % 256):Nat):Int) by omega,arr_set,← nar_set]
   have HB1:=Lib.hid (hb1.cast (l':=[(w.heap.size,arr .u8 x0, 23),(w.heap.size+1,arr .u8 y0, 23),(w.heap.size+1+1,arr .u8 zn, 23),(w.heap.size+1+1+1,arr .u8 (nar (ss.set i ((x+y+c) % 256))), 25)]) (by rw [← e2];rfl))
   have HST:=Lib.hid hst
   have HSL:Hid ((ss.set i ((x+y+c) % 256)).length=64):=Lib.hid (by rw [List.length_set,hsl])
   have HSB:Hid (∀ z∈ss.set i ((x+y+c) % 256),z < 256):=Lib.hid (lt_set hsb i ((x+y+c) % 256) (Nat.mod_lt _ (by decide)))
   have HSZ:Hid (∀ j,i+1≤j→(ss.set i ((x+y+c) % 256)).getD j 0=0):=Lib.hid (by intro j hj;have e:=hsz j (by omega);simp only [List.getD] at e ⊢; rw [List.getElem?_set_ne (by omega)];exact e)
   clear hb1 e2 hst st vm hB hsl hsb hsz hv ha xz yz
   go_wp2_with fail
   go_region
   go_wp2_with fail
   go_roundw
   case rel=>exact ⟨i+1,((x+y+c) / 256),_,by omega,by go_num,by go_num,by omega,HSL.out,HSB.out,HSZ.out,HST.out,HB1.out.drew⟩
   case measure=>simp [intOf];omega
  ·skip
   obtain rfl:=xz h32
   obtain rfl:=yz h32
   have ha:=and255i c (by omega)
   have hst:=st (c % 256) (c / 256) (by omega)
   rw [← vm] at hst
   have hb1:=hB.cell 3 rfl i (.int .u8 (bits .and .i64 (c:Int) 255 % 256))
   have e2:(arr .u8 (nar ss)).setIfInBounds i (.int .u8 (bits .and .i64 (c:Int) 255 % 256))=arr .u8 (nar (ss.set i (c % 256))):=by rw [ha,show ((((c % 256):Nat):Int) % 256)=(((c % 256):Nat):Int) by omega,arr_set,← nar_set]
   have HB1:=Lib.hid (hb1.cast (l':=[(w.heap.size,arr .u8 x0, 23),(w.heap.size+1,arr .u8 y0, 23),(w.heap.size+1+1,arr .u8 zn, 23),(w.heap.size+1+1+1,arr .u8 (nar (ss.set i (c % 256))), 25)]) (by rw [← e2];rfl))
   have HST:=Lib.hid hst
   have HSL:Hid ((ss.set i (c % 256)).length=64):=Lib.hid (by rw [List.length_set,hsl])
   have HSB:Hid (∀ z∈ss.set i (c % 256),z < 256):=Lib.hid (lt_set hsb i (c % 256) (Nat.mod_lt _ (by decide)))
   have HSZ:Hid (∀ j,i+1≤j→(ss.set i (c % 256)).getD j 0=0):=Lib.hid (by intro j hj;have e:=hsz j (by omega);simp only [List.getD] at e ⊢; rw [List.getElem?_set_ne (by omega)];exact e)
   clear hb1 e2 hst st vm hB hsl hsb hsz hv ha xz yz q0 q1
   go_wp2_with fail
   go_roundw
   case rel=>exact ⟨i+1,(c / 256),_,by omega,by go_num,by go_num,by omega,HSL.out,HSB.out,HSZ.out,HST.out,HB1.out⟩
   case measure=>simp [intOf];omega
 ·obtain rfl:i=33:=by omega
  rw [List.take_of_length_le (Nat.le_of_eq XL.out),List.take_of_length_le (Nat.le_of_eq YL.out),XV.out,YV.out] at hv
  have hvt:=val_tail 64 33 ss hsl (by decide) hsz
  have hab:=HAB.out
  have hc0:c=0:=by
   rcases (show c=0∨c=1 by omega) with h|h
   ·exact h
   ·subst h;omega
  subst hc0
  rw [Nat.mul_zero,Nat.add_zero,← hvt] at hv
  have hd:=dig_eq 256 (by decide) 64 (a+b) ss hsl hsb hv
  rw [hd,← HSO.out] at hB
  have HB:=Lib.hid hB
  clear hB hv hvt hab hd hsl hsb hsz hc
  go_wp2_with (first|((with_reducible show Calls _ 135 _ _ _);go_at_call 135; refine (HRED.out _ (src_arr' (HB.out.get 3 rfl) 64 HS64.out) (HT.out.below HB.out.below)).mono ?_;rintro e w6 ⟨rfl,hb6⟩;have HB6:=Lib.hid (HB.out.kept hb6);clear hb6)|((with_reducible refine aT 4 ?_);refine wpList_store_whole rfl 23 _ _ rfl (w.heap.size+1+1) _ _ 23 (HB6.out.get 2 rfl) rfl rfl (arr_len2 _ _ HROL.out HLzn.out) (num_s HROL.out) (all_arr _ _) ?_;intro w7 hb7 hk7 hz7;have HB7:=Lib.hid (HB6.out.put 2 rfl hk7 hb7);clear hb7 hk7 hz7))
  (try simp only [Exit.inBlock,Exit.then])
  refine bodyPost_ret (results_cell_row rfl _ _ (w.heap.size+1+1) 23 _ (0,0) _ rfl (HB7.out.get 2 rfl) Tryd.underlying23 rfl (num_s HROL.out)) rfl ?_
  exact ⟨rfl,HB7.out.below⟩
end Go.Proofs.YtodnkallpfkdiaaDoor.Rd
namespace Go.Proofs.YtodnkallpfkdiaaDoor.Rd
open Go.RowKit Lm Sc
theorem zero_i64 (w:World):(zeroValue 175).run Tryd.prog w = .ok (.agg (arr .i64 (List.replicate 64 0))) w:=by kernel_rfl
theorem mulq_step (xs ys us:List Nat) (i k B:Nat) (hk:k < ys.length) (hl:i+k < us.length) (hv:val 256 us=val 256 (xs.take i) * B+256 ^ i * xs.getD i 0 * val 256 (ys.take k)) :
  val 256 (us.set (i+k) (us.getD (i+k) 0+xs.getD i 0 * ys.getD k 0))=val 256 (xs.take i) * B+256 ^ i * xs.getD i 0 * val 256 (ys.take (k+1)):=by
 have h:=val_set 256 us (i+k) (us.getD (i+k) 0+xs.getD i 0 * ys.getD k 0) hl
 rw [val_take_succ _ _ _ hk,Nat.mul_add,← Nat.add_assoc,← hv]
 have e:256 ^ (i+k) * (us.getD (i+k) 0+xs.getD i 0 * ys.getD k 0)=256 ^ (i+k) * us.getD (i+k) 0+256 ^ i * xs.getD i 0 * (256 ^ k * ys.getD k 0):=by
  rw [Nat.mul_add,Nat.pow_add]
  grind
 omega
theorem mulq_bound (xs ys us:List Nat) (i k:Nat) (hx:∀ x∈xs,x < 256) (hy:∀ x∈ys,x < 256) (hl:i+k < us.length) (hb:∀ n,us.getD n 0≤65025 * (i+if i≤n∧n < i+k then 1 else 0)) :
  ∀ n,(us.set (i+k) (us.getD (i+k) 0+xs.getD i 0 * ys.getD k 0)).getD n 0≤65025 * (i+if i≤n∧n < i+(k+1) then 1 else 0):=by
 intro n
 have h1:=lt_getD hx (by decide) i
 have h2:=lt_getD hy (by decide) k
 have h3:xs.getD i 0 * ys.getD k 0≤255 * 255:=Nat.mul_le_mul (by omega) (by omega)
 by_cases e:n=i+k
 ·subst e
  have h:=hb (i+k)
  have eg:(us.set (i+k) (us.getD (i+k) 0+xs.getD i 0 * ys.getD k 0)).getD (i+k) 0=us.getD (i+k) 0+xs.getD i 0 * ys.getD k 0:=by simp [List.getD,hl]
  rw [eg]
  rw [if_neg (by omega)] at h
  rw [if_pos (by omega)]
  omega
 ·have h:=hb n
  have eg:(us.set (i+k) (us.getD (i+k) 0+xs.getD i 0 * ys.getD k 0)).getD n 0=us.getD n 0:=by
   simp only [List.getD]
   rw [List.getElem?_set_ne (fun e'=>e e'.symm)]
  rw [eg]
  by_cases e2:i≤n∧n < i+k
  ·rw [if_pos e2] at h
   rw [if_pos (by omega)]
   exact h
  ·rw [if_neg e2] at h
   rw [if_neg (by omega)]
   exact h
theorem mul_lt64 {a b:Nat} (ha:a < 256 ^ 32) (hb:b < 256 ^ 32):a * b < 256 ^ 64:=by
 rw [show (64:Nat)=32+32 from rfl,Nat.pow_add]
 exact Nat.mul_lt_mul_of_lt_of_lt ha hb
theorem carry_step (k S c X t s c':Nat) (h:S+256 ^ k * c=X) (hs:s+256 * c'=c+t):(S+256 ^ k * s)+256 ^ (k+1) * c'=X+256 ^ k * t:=by
 have e:256 ^ k * (s+256 * c')=256 ^ k * (c+t):=by rw [hs]
 rw [Nat.pow_succ]
 grind
theorem mulq_any (a b:Nat) (w:World) (ha:a < 256 ^ 32) (hb:b < 256 ^ 32) (hT:TabQ w) :
  Calls Tryd.prog 91 #[.agg (arr .u8 (nar (dig 256 32 a))), .agg (arr .u8 (nar (dig 256 32 b)))] w fun e w'=>e = .returned (.agg (arr .u8 (nar (dig 256 32 (a * b % q)))))∧Below w.heap.size w w':=by
 have hab:=mul_lt64 ha hb
 have hp64:∀ V,V < 256 ^ 64→V < 2 ^ 512:=fun V h=>by rw [show (256:Nat)=2 ^ 8 from rfl,← Nat.pow_mul,show 8 * 64=512 from rfl] at h;exact h
 have hred:=fun w' ad cp (hs:Src w' ad 64 (nar (dig 256 64 (a * b)))) hT'=>reduce_any ad cp (a * b) w' hs (hp64 _ hab) hT'
 obtain ⟨xs,hxs⟩:∃ r,r=dig 256 32 a:=⟨_,rfl⟩
 obtain ⟨ys,hys⟩:∃ r,r=dig 256 32 b:=⟨_,rfl⟩
 have XL:Hid (xs.length=32):=Lib.hid (by rw [hxs,dig_len])
 have YL:Hid (ys.length=32):=Lib.hid (by rw [hys,dig_len])
 have XB:Hid (∀ x∈xs,x < 256):=Lib.hid (by rw [hxs];exact dig_lt 256 (by decide) _ _)
 have YB:Hid (∀ x∈ys,x < 256):=Lib.hid (by rw [hys];exact dig_lt 256 (by decide) _ _)
 have XV:Hid (val 256 xs=a):=Lib.hid (by rw [hxs,val32 a ha])
 have YV:Hid (val 256 ys=b):=Lib.hid (by rw [hys,val32 b hb])
 have HAB:=Lib.hid hab
 obtain ⟨x0,hx0⟩:∃ r,r=nar xs:=⟨_,rfl⟩
 obtain ⟨y0,hy0⟩:∃ r,r=nar ys:=⟨_,rfl⟩
 have X0L:Hid (x0.length=32):=Lib.hid (by rw [hx0,nar_len,XL.out])
 have Y0L:Hid (y0.length=32):=Lib.hid (by rw [hy0,nar_len,YL.out])
 have X0G:Hid (∀ k,x0.getD k 0=((xs.getD k 0:Nat):Int)):=Lib.hid (fun k=>by rw [hx0,nar_get])
 have Y0G:Hid (∀ k,y0.getD k 0=((ys.getD k 0:Nat):Int)):=Lib.hid (fun k=>by rw [hy0,nar_get])
 rw [← hxs,← hys,← hx0,← hy0]
 obtain ⟨ro,hro⟩:∃ r,r=nar (dig 256 32 (a * b % q)):=⟨_,rfl⟩
 have HROL:Hid (ro.length=32):=Lib.hid (by rw [hro,nar_len,dig_len])
 rw [← hro] at hred ⊢
 obtain ⟨so,hso⟩:∃ r,r=nar (dig 256 64 (a * b)):=⟨_,rfl⟩
 have HS64:Hid (so.length=64):=Lib.hid (by rw [hso,nar_len,dig_len])
 have HSO:=Lib.hid hso
 rw [← hso] at hred
 have HRED:Hid (∀ (w':World) {ad:Option Addr} {cp:Nat},Src w' ad 64 so→TabQ w'→Calls Tryd.prog 135 #[.slice ad 64 cp] w' fun e w''=>e = .returned (.agg (arr .u8 ro))∧Below w'.heap.size w' w''):=Lib.hid (fun w' ad cp h1 h2=>hred w' ad cp h1 h2)
 have HT:=Lib.hid hT
 obtain ⟨zn,hzn⟩:∃ zs:List Int,zs=List.replicate 32 0:=⟨_,rfl⟩
 have HZzn:Hid (∀ w,(zeroValue 23).run Tryd.prog w = .ok (.agg (arr .u8 zn)) w):=Lib.hid (by intro w;rw [hzn];exact zero_num w)
 have HLzn:Hid (zn.length=32):=Lib.hid (by rw [hzn];rfl)
 obtain ⟨zs,hzs⟩:∃ zs:List Int,zs=List.replicate 64 0:=⟨_,rfl⟩
 have HZzs:Hid (∀ w,(zeroValue 25).run Tryd.prog w = .ok (.agg (arr .u8 zs)) w):=Lib.hid (by intro w;rw [hzs];exact zero_b64 w)
 have HLzs:Hid (zs.length=64):=Lib.hid (by rw [hzs];rfl)
 obtain ⟨zt,hzt⟩:∃ zs:List Int,zs=List.replicate 64 0:=⟨_,rfl⟩
 have HZzt:Hid (∀ w,(zeroValue 175).run Tryd.prog w = .ok (.agg (arr .i64 zt)) w):=Lib.hid (by intro w;rw [hzt];exact zero_i64 w)
 have HZS:Hid (zs=nar (List.replicate 64 0)):=Lib.hid (by rw [hzs,nar_zeros])
 have HZT:Hid (zt=nar (List.replicate 64 0)):=Lib.hid (by rw [hzt,nar_zeros])
 have HS0:=Lib.hid (Blk.four w (arr .u8 x0) (arr .u8 y0) (arr .u8 zn) (arr .i64 zt) 23 23 23 175)
 have hg0:∀ k,(List.replicate 64 (0:Nat)).getD k 0=0:=fun k=>by simp only [List.getD,List.getElem?_replicate];split <;> rfl
 have HG0:=Lib.hid hg0
 clear hzn hzs hzt hred hx0 hy0 hxs hys hro hso hT ha hb hg0 hab hp64
 go_enter Tryd.func91, Tryd.ntmps91
 go_wp2_with (first|((with_reducible refine aS 4 ?_);refine wpList_alloc_row rfl 23 rfl _ (HZzn.out _) ?_)|((with_reducible refine aS 5 ?_);refine wpList_alloc_row rfl 175 rfl _ (HZzt.out _) ?_))
 go_loopw [6] (fun v wr=>∃ i:Nat,i≤32∧v = .int .i64 i∧∃ ts:List Nat,ts.length=64∧(∀ n,ts.getD n 0≤65025 * i)∧val 256 ts=val 256 (xs.take i) * b∧Blk w wr [(w.heap.size,arr .u8 x0, 23),(w.heap.size+1,arr .u8 y0, 23),(w.heap.size+1+1,arr .u8 zn, 23),(w.heap.size+1+1+1,arr .i64 (nar ts), 175)]) (fun v _=>32 - (intOf v).toNat)
 case atStart=>exact ⟨0,Nat.zero_le _,rfl,List.replicate 64 0,by simp,(fun n=>by rw [HG0.out n];omega),(by rw [val_zeros,List.take_zero];simp [val]),by rw [← HZT.out];exact HS0.out⟩
 clear HS0
 case round =>
 obtain ⟨i,hi,rfl,ts,tl,tb0,tv,hB⟩:=hrel
 by_cases hlt:i < 32
 ·have HB:=Lib.hid hB
  have HTL:=Lib.hid tl
  have HTB:=Lib.hid tb0
  have HTV:=Lib.hid tv
  clear hB tl tb0 tv
  go_wp2_with fail
  generalize Value.bool (decide ((i:Int) < 32))=ub'
  go_loopw [7] (fun v wr=>∃ k:Nat,k≤32∧v = .int .i64 k∧∃ us:List Nat,us.length=64∧(∀ n,us.getD n 0≤65025 * (i+if i≤n∧n < i+k then 1 else 0))∧val 256 us=val 256 (xs.take i) * b+256 ^ i * xs.getD i 0 * val 256 (ys.take k)∧Blk w wr [(w.heap.size,arr .u8 x0, 23),(w.heap.size+1,arr .u8 y0, 23),(w.heap.size+1+1,arr .u8 zn, 23),(w.heap.size+1+1+1,arr .i64 (nar us), 175)]) (fun v _=>32 - (intOf v).toNat)
  case atStart=>exact ⟨0,Nat.zero_le _,rfl,ts,HTL.out,(by intro n;rw [if_neg (by omega)];exact HTB.out n),(by rw [HTV.out,List.take_zero];simp [val]),HB.out⟩
  case round =>
   obtain ⟨k,hk,rfl,us,ul,ub,uv,hU⟩:=hrel
   by_cases hlk:k < 32
   ·have q0:=arr_get' (hU.get 0 rfl) i (by rw [X0L.out];exact hlt)
    have q1:=arr_get' (hU.get 1 rfl) k (by rw [Y0L.out];exact hlk)
    have q2:=arr_get' (hU.get 3 rfl) (i+k) (by rw [nar_len,ul];omega)
    have q3:=free_blk (hU.get 3 rfl) (i+k)
    rw [X0G.out] at q0
    rw [Y0G.out] at q1
    rw [nar_get] at q2
    have pb:=mulq_bound xs ys us i k XB.out YB.out (by omega) ub
    have ps:=mulq_step xs ys us i k b (by rw [YL.out];exact hlk) (by omega) uv
    have ub0:=ub (i+k)
    rw [if_neg (by omega)] at ub0
    have x1:=lt_getD XB.out (by decide) i
    have y1:=lt_getD YB.out (by decide) k
    have hp:xs.getD i 0 * ys.getD k 0≤255 * 255:=Nat.mul_le_mul (by omega) (by omega)
    have HPB:=Lib.hid pb
    have HPS:=Lib.hid ps
    obtain ⟨vs,hvs⟩:∃ vs,vs=us.set (i+k) (us.getD (i+k) 0+xs.getD i 0 * ys.getD k 0):=⟨_,rfl⟩
    have HPL:Hid (vs.length=64):=Lib.hid (by rw [hvs,List.length_set,ul])
    rw [← hvs] at HPB HPS
    have hpi:((xs.getD i 0 * ys.getD k 0:Nat):Int)=(xs.getD i 0:Int) * (ys.getD k 0:Int):=Int.natCast_mul _ _
    have hb1:=hU.cell 3 rfl (i+k) (.int .i64 ((us.getD (i+k) 0:Int)+(xs.getD i 0:Int) * (ys.getD k 0:Int)))
    have e2:(arr .i64 (nar us)).setIfInBounds (i+k) (.int .i64 ((us.getD (i+k) 0:Int)+(xs.getD i 0:Int) * (ys.getD k 0:Int)))=arr .i64 (nar vs):=by rw [← hpi,← Int.natCast_add,arr_set,← nar_set,hvs]
    have HU1:=Lib.hid (hb1.cast (l':=[(w.heap.size,arr .u8 x0, 23),(w.heap.size+1,arr .u8 y0, 23),(w.heap.size+1+1,arr .u8 zn, 23),(w.heap.size+1+1+1,arr .i64 (nar vs), 175)]) (by rw [← e2];rfl))
    clear hb1 e2 hvs hU ul ub uv pb ps
    generalize us.getD (i+k) 0=u at q2 ub0 HU1
    generalize xs.getD i 0=x at q0 hp hpi HPS HU1 x1
    generalize ys.getD k 0=y at q1 hp hpi HU1 y1
    have hr1:0≤(x:Int) * (y:Int)∧(x:Int) * (y:Int)≤65025:=by rw [← hpi];omega
    clear hp hpi
    go_wp2_with fail
    go_region
    go_wp2_with fail
    go_roundw
    case rel=>exact ⟨k+1,by omega,by go_num,vs,HPL.out,HPB.out,HPS.out,HU1.out.drew⟩
    case measure=>simp [intOf];omega
   ·obtain rfl:k=32:=by omega
    rw [List.take_of_length_le (Nat.le_of_eq YL.out),YV.out] at uv
    have HU:=Lib.hid hU
    have HUL:=Lib.hid ul
    have HUB:Hid (∀ n,us.getD n 0≤65025 * (i+1)):=Lib.hid (by
     intro n
     have:=ub n
     by_cases e:i≤n∧n < i+32
     ·rw [if_pos e] at this;omega
     ·rw [if_neg e] at this;omega)
    have HUV:Hid (val 256 us=val 256 (xs.take (i+1)) * b):=Lib.hid (by rw [uv,val_take_succ 256 xs i (by rw [XL.out];exact hlt),Nat.add_mul])
    clear hU ul ub uv HB HTL HTB HTV
    go_wp2_with fail
    go_roundw
    case rel=>exact ⟨i+1,by omega,by go_num,us,HUL.out,HUB.out,HUV.out,HU.out⟩
    case measure=>simp [intOf];omega
 ·obtain rfl:i=32:=by omega
  rw [List.take_of_length_le (Nat.le_of_eq XL.out),XV.out] at tv
  have HB:=Lib.hid (hB.alloc (arr .u8 zs) 25)
  have HTL:=Lib.hid tl
  have HTB:=Lib.hid tb0
  have HTV:=Lib.hid tv
  clear hB tl tb0 tv
  go_wp2_with (first|((with_reducible refine aS 8 ?_);refine wpList_alloc_row rfl 25 rfl _ (HZzs.out _) ?_))
  generalize wr.heap.size=gs at HB ⊢
  go_loopw [9,10] (fun cv jv wq=>∃ (j c:Nat) (ss:List Nat),j≤64∧jv = .int .i64 j∧cv = .int .i64 c∧c≤10000∧ss.length=64∧(∀ x∈ss,x < 256)∧val 256 (ss.take j)+256 ^ j * c=val 256 (ts.take j)∧Blk w wq [(w.heap.size,arr .u8 x0, 23),(w.heap.size+1,arr .u8 y0, 23),(w.heap.size+1+1,arr .u8 zn, 23),(w.heap.size+1+1+1,arr .i64 (nar ts), 175),(gs,arr .u8 (nar ss), 25)]) (fun _ jv _=>64 - (intOf jv).toNat)
  case atStart=>exact ⟨0,0,List.replicate 64 0,Nat.zero_le _,rfl,rfl,Nat.zero_le _,by simp,by simp,by simp [val],by rw [← HZS.out];exact HB.out⟩
  case round =>
   obtain ⟨j,c,ss,hj,rfl,rfl,hc,hsl,hsb,hv,hQ⟩:=hrel
   by_cases hlj:j < 64
   ·have q0:=arr_get' (hQ.get 3 rfl) j (by rw [nar_len,HTL.out];exact hlj)
    have q2:=arr_get' (hQ.get 4 rfl) j (by rw [nar_len,hsl];exact hlj)
    have q3:=free_blk (hQ.get 4 rfl) j
    rw [nar_get] at q0
    have t1:=HTB.out j
    have st:=fun s c' hs=>carry_step j _ c _ (ts.getD j 0) s c' hv hs
    have vm:=fun s=>val_take_set 256 ss j s (by omega)
    rw [← val_take_succ 256 ts j (by rw [HTL.out];exact hlj)] at st
    generalize ts.getD j 0=t at q0 t1 st
    have hst:=st ((c+t) % 256) ((c+t) / 256) (by omega)
    rw [← vm] at hst
    have ha:=and255i (c+t) (by omega)
    rw [Int.natCast_add] at ha
    have hb1:=hQ.cell 4 rfl j (.int .u8 (bits .and .i64 ((c:Int)+(t:Int)) 255 % 256))
    have e2:(arr .u8 (nar ss)).setIfInBounds j (.int .u8 (bits .and .i64 ((c:Int)+(t:Int)) 255 % 256))=arr .u8 (nar (ss.set j ((c+t) % 256))):=by rw [ha,show ((((c+t) % 256:Nat):Int) % 256)=(((c+t) % 256:Nat):Int) by omega,arr_set,← nar_set]
    have HQ1:=Lib.hid (hb1.cast (l':=[(w.heap.size,arr .u8 x0, 23),(w.heap.size+1,arr .u8 y0, 23),(w.heap.size+1+1,arr .u8 zn, 23),(w.heap.size+1+1+1,arr .i64 (nar ts), 175),(gs,arr .u8 (nar (ss.set j ((c+t) % 256))), 25)]) (by rw [← e2];rfl))
    have HST:=Lib.hid hst
    have HSL:Hid ((ss.set j ((c+t) % 256)).length=64):=Lib.hid (by rw [List.length_set,hsl])
    have HSB:Hid (∀ z∈ss.set j ((c+t) % 256),z < 256):=Lib.hid (lt_set hsb j ((c+t) % 256) (Nat.mod_lt _ (by decide)))
    clear hb1 e2 hst st vm hQ hsl hsb hv ha
    go_wp2_with fail
    go_roundw
    case rel=>exact ⟨j+1,(c+t) / 256,_,by omega,by go_num,by go_num,by omega,HSL.out,HSB.out,HST.out,HQ1.out⟩
    case measure=>simp [intOf];omega
   ·obtain rfl:j=64:=by omega
    rw [List.take_of_length_le (Nat.le_of_eq hsl),List.take_of_length_le (Nat.le_of_eq HTL.out),HTV.out] at hv
    have hab:=HAB.out
    have hc0:c=0:=by
     rcases Nat.eq_zero_or_pos c with h|h
     ·exact h
     ·have:256 ^ 64 * 1≤256 ^ 64 * c:=Nat.mul_le_mul_left _ h
      omega
    subst hc0
    rw [Nat.mul_zero,Nat.add_zero] at hv
    have hd:=dig_eq 256 (by decide) 64 (a * b) ss hsl hsb hv
    rw [hd,← HSO.out] at hQ
    have HQ:=Lib.hid hQ
    clear hQ hv hab hd hsl hsb hc HB
    go_wp2_with (first|((with_reducible show Calls _ 135 _ _ _);go_at_call 135; refine (HRED.out _ (src_arr' (HQ.out.get 4 rfl) 64 HS64.out) (HT.out.below HQ.out.below)).mono ?_;rintro e w6 ⟨rfl,hb6⟩;have HB6:=Lib.hid (HQ.out.kept hb6);clear hb6)|((with_reducible refine aT 4 ?_);refine wpList_store_whole rfl 23 _ _ rfl (w.heap.size+1+1) _ _ 23 (HB6.out.get 2 rfl) rfl rfl (arr_len2 _ _ HROL.out HLzn.out) (num_s HROL.out) (all_arr _ _) ?_;intro w7 hb7 hk7 hz7;have HB7:=Lib.hid (HB6.out.put 2 rfl hk7 hb7);clear hb7 hk7 hz7))
    (try simp only [Exit.inBlock,Exit.then])
    refine bodyPost_ret (results_cell_row rfl _ _ (w.heap.size+1+1) 23 _ (0,0) _ rfl (HB7.out.get 2 rfl) Tryd.underlying23 rfl (num_s HROL.out)) rfl ?_
    exact ⟨rfl,HB7.out.below⟩
end Go.Proofs.YtodnkallpfkdiaaDoor.Rd
