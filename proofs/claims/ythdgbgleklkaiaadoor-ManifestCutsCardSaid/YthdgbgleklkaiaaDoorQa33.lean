/- manifest.num, signature: How a manifest's bytes are read, in plain words; Stops and certificates are compared. What reading a stop answers; A told region whose base is its own firs. Condition: as each theorem says. -/

import Derived.Test.YthdgbgleklkaiaaDoorQa04
import Derived.Test.YthdgbgleklkaiaaDoorQa21
import Derived.Test.YthdgbgleklkaiaaDoorQa22
import Derived.Test.YthdgbgleklkaiaaDoorQa32
set_option linter.unusedSimpArgs false
set_option linter.unusedVariables false
set_option maxRecDepth 100000
set_option maxHeartbeats 16000000
namespace Go.Proofs.YthdgbgleklkaiaaDoor.Mf
open Go.RowKit Lm Fp Cu Sl Sc Ce
theorem _root_.Go.Proofs.YthdgbgleklkaiaaDoor.dO.qlt {w:World} {p q:Nat} {zs:List Int} {bad:Bool} (h:dO w p q zs bad) (hz:zs≠[]):q < w.heap.size:=by
 obtain ⟨⟨sa,c,h1,h2,h3,h4,h5⟩,h6,h7⟩:=h
 have hl:0 < zs.length:=List.length_pos_iff.2 hz
 obtain ⟨a,e,hc⟩:=h2.cell 0 hl
 rw [← h5 a e]
 exact World.block_lt_of_cell? _ _ hc
theorem _root_.Go.Proofs.YthdgbgleklkaiaaDoor.dO.G6 {T:Nat→Prop} {w w':World} {p q:Nat} {zs:List Int} {bad:Bool} (h:dO w p q zs bad) (k:Kept T w w') (hp:¬ T p) (hq:zs≠[]→¬ T q):dO w' p q zs bad:=by
 obtain ⟨⟨sa,c,h1,h2,h3,h4,h5⟩,h6,h7⟩:=h
 refine ⟨⟨sa,c,k.blk h1 hp,?_,h3,h4,h5⟩,h6,Nat.lt_of_lt_of_le h7 k.size⟩
 by_cases hz:zs=[]
 ·subst hz
  exact ⟨rfl,fun i hi=>absurd hi (by simp)⟩
 ·exact h2.kept k (fun a e => .inr (by rw [h5 a e];exact hq hz))
def ou (zs:List Int) (bad:Bool) (n:Nat):List Int:=if jL zs bad n then zs.take n else List.replicate n 0
theorem mG (zs:List Int) (bad:Bool) (n:Nat):(ou zs bad n).length=n:=by
 unfold ou
 split
 ·rename_i h
  obtain ⟨-, -, h2⟩:=iY.1 h
  rw [List.length_take]
  omega
 ·simp
theorem OC (zs:List Int) (bad:Bool) (n:Nat):(jl zs bad n).length≤n:=by
 unfold jl
 split
 ·rw [List.length_take,Int.toNat_natCast]
  exact Nat.min_le_left _ _
 ·simp
theorem GA (zs:List Int) (bad:Bool) (n:Nat):((arr .u8 (List.replicate n 0)).toList.take 0 ++ (jl zs bad n).map (Value.int .u8) ++ (arr .u8 (List.replicate n 0)).toList.drop (0+(jl zs bad n).length)).toArray=arr .u8 (ou zs bad n):=by
 unfold jl ou
 split
 ·rename_i h
  obtain ⟨-, -, h2⟩:=iY.1 h
  have hl:(zs.take n).length=n:=by rw [List.length_take];omega
  apply Array.ext'
  simp [arr,hl]
 ·apply Array.ext'
  simp [arr]
theorem OB (p q:Nat) (zs:List Int) (bad:Bool) (w:World) (h:dO w p q zs bad) (hl:zs.length≤1099511627776) :
  Calls Tryd.prog 20 #[.pointer (some ⟨p,0,none⟩)] w fun e w'=>e = .returned (.agg (arr .u8 (ou zs bad 32)))∧dO w' p q (oq zs bad 32) (!jL zs bad 32)∧Kept (· = p) w w':=by
 obtain ⟨zn,hzn⟩:∃ zs:List Int,zs=List.replicate 32 0:=⟨_,rfl⟩
 have HZ:Hid (∀ w,(zeroValue 23).run Tryd.prog w = .ok (.agg (arr .u8 zn)) w):=Lib.hid (by intro w;rw [hzn];exact Sl.zero_num w)
 have HLz:Hid (zn.length=32):=Lib.hid (by rw [hzn];rfl)
 have hb0:=((Below.refl _ w).alloc (Nat.le_refl _) (.cells (arr .u8 zn) 23)).alloc (by simp) (.cells (arr .u8 zn) 23)
 have VO:=h.lt
 have HQ:=Lib.hid (fun hz=>h.qlt hz)
 have hr:=fun (u:World) (k:dO u p q zs bad)=>pI p q zs bad 32 u k hl
 have hnl:(jl zs bad 32).length≤32:=OC zs bad 32
 have OZ:((arr .u8 zn).toList.take 0 ++ (jl zs bad 32).map (Value.int .u8) ++ (arr .u8 zn).toList.drop (0+(jl zs bad 32).length)).toArray=arr .u8 (ou zs bad 32):=by rw [hzn];exact GA zs bad 32
 have hvl:=mG zs bad 32
 obtain ⟨R,hR⟩:∃ R,R=jl zs bad 32:=⟨_,rfl⟩
 rw [← hR] at hr hnl OZ
 generalize ou zs bad 32=N at OZ hvl ⊢
 have HI0:Hid (((w.alloc (.cells (arr .u8 zn) 23)).alloc (.cells (arr .u8 zn) 23)).heap[w.heap.size]? = some (.cells (arr .u8 zn) 23 (0,0))):=Lib.hid (bf (aL w _) _)
 have HI1:Hid (((w.alloc (.cells (arr .u8 zn) 23)).alloc (.cells (arr .u8 zn) 23)).heap[w.heap.size+1]? = some (.cells (arr .u8 zn) 23 (0,0))):=Lib.hid (by have:=aL (w.alloc (.cells (arr .u8 zn) 23)) (.cells (arr .u8 zn) 23);rwa [World.size_alloc] at this)
 have HC:=Lib.hid (h.below hb0)
 have HB0:=Lib.hid hb0
 have HP:=Lib.hid VO
 have HR:=Lib.hid hr
 have xI:=Lib.hid hnl
 have HNV:=Lib.hid OZ
 have FZ:=Lib.hid hvl
 clear h hl hb0 VO hr hnl OZ hvl hR hzn
 go_enter Tryd.func20, Tryd.ntmps20
 go_upto_region 2 with (first|((with_reducible refine aS 2 ?_);refine aj rfl 23 rfl _ (HZ.out _) ?_)|((with_reducible refine aS 3 ?_);refine aj rfl 23 rfl _ (HZ.out _) ?_))
 (try simp only [World.size_alloc,Act.put,sA,sZ,sS])
 generalize ((w.alloc (.cells (arr .u8 zn) 23)).alloc (.cells (arr .u8 zn) 23))=wb at HI0 HI1 HC HB0 ⊢
 refine wp_region_held_drew (S:=fun u=>True) (by kernel_rfl) (trivial) (fun hHeld=>?_)
 refine wpAnyH_take (i:=0) (oi:=(⟨some 4,_,_,_,_,none⟩:Oper)) (v := .slice (some ⟨w.heap.size+1,0,none⟩) 32 32) rfl (by kernel_rfl) (by kernel_rfl) (by kernel_rfl) (fun _ _ _ h=>h) (Or.inl ⟨by rfl,?hy101⟩) (by assumption) ?DV
 case hy101=>(intro u dW;(try dsimp only at dW);go_simp;try (with_reducible rfl))
 (try simp only [Act.put,sA,sZ,sS])
 refine wpAnyH_take (i:=1) (oi:=(⟨some 5,_,_,_,_,none⟩:Oper)) (v := .pointer (some ⟨p,0,none⟩)) rfl (by kernel_rfl) (by kernel_rfl) (by kernel_rfl) (fun _ _ _ h=>h) (Or.inl ⟨by rfl,?hy102⟩) (by assumption) ?rest102
 case hy102=>(intro u dW;(try dsimp only at dW);go_simp;try (with_reducible rfl))
 (try simp only [Act.put,sA,sZ,sS])
 refine wpAnyH_ready (rs:=[2]) (by kernel_rfl) (by simp) ?_
 refine AllReadyH.cons (o:=(⟨some 6,_,_,_,_,none⟩:Oper)) rfl (fun K hK=>?_) AllReadyH.nil
 go_simp
 go_at_call 18
 refine (HR.out _ (HC.out.below (Below.refl _ wb).drew)).mono ?_
 rintro e w1 ⟨v1,rfl,ho,hc,hk⟩
 have Br:=Lib.hid hc
 obtain ⟨s1,c1,rfl, -, -, hs1, -⟩:=ho.form
 have gY:=Lib.hid hs1
 have uH:Hid (Kept (· = p) wb w1):=Lib.hid ((Kept.of_below (Below.refl _ wb).drew).trans hk)
 have HJ0:=Lib.hid (uH.out.blk HI0.out (by have:=HP.out;omega))
 have HJ1:=Lib.hid (uH.out.blk HI1.out (by have:=HP.out;omega))
 clear ho hc hk hs1
 refine hK.out _ _ (trivial) (fun hHeld=>?_)
 clear hK K
 (try simp only [Act.put,sA,sZ,sS])
 refine wpAnyH_ready (rs:=[3]) (by kernel_rfl) (by simp) ?_
 refine AllReadyH.cons (o:=(⟨some 7,_,_,_,_,none⟩:Oper)) rfl (fun K hK=>?_) AllReadyH.nil
 refine yM rfl (.tmp 4) (.tmp 6) rfl (w.heap.size+1) 0 32 32 R.length c1 s1 (arr .u8 zn) R 23 rfl rfl HJ1.out gY.out xI.out (by rw [aF,HLz.out];have:=xI.out;omega) ?_
 intro w2 hb2 hk2
 rw [HNV.out] at hb2
 have oH:=Lib.hid hb2
 have SB:=Lib.hid (hk2.blk HJ0.out (by omega))
 have SB:=Lib.hid (hk2.blk HJ0.out (by omega))
 have IK:=Lib.hid hk2
 clear hb2 hk2
 refine hK.out _ _ (trivial) (fun hHeld=>?_)
 clear hK K
 (try simp only [Act.put,sA,sZ,sS])
 refine wpAnyH_done (by kernel_rfl) ?_ _
 (try simp only [Exit.then])
 clear hHeld
 go_wp2_with (first|((with_reducible refine aS 8 ?_);refine ak rfl 23 _ rfl (w.heap.size+1) 0 _ 23 (0,0) _ oH.out rfl .u8 N (au _ _) Tryd.underlying23 rfl (Sl.bU FZ.out) ?_)|((with_reducible refine aT 2 ?_);refine ah rfl 23 _ _ rfl (w.heap.size) _ _ 23 SB.out rfl rfl (ay _ _ FZ.out HLz.out) (Sl.bE FZ.out) (av _ _) ?_;intro w3 hb3 hk3 hz3;have HB3:=Lib.hid hb3;have HK3:=Lib.hid hk3;clear hb3 hk3 hz3))
 (try simp only [Exit.then])
 refine bodyPost_ret (results_cell_row rfl _ _ (w.heap.size) 23 _ (0,0) _ rfl HB3.out Tryd.underlying23 rfl (Sl.bE FZ.out)) rfl ?_
 have hk:Kept (· = p) w w3:=((((Kept.of_below HB0.out (T:=(· = p))).trans uH.out).cK IK.out (fun i hi e=>by have e:i=w.heap.size+1:=e;omega)).cK HK3.out (fun i hi e=>by have e:i=w.heap.size:=e;omega))
 have hx:∀ k,oq zs bad 32≠[]→k=w.heap.size∨k=w.heap.size+1→q≠k:=fun k hz hk e=>by
  have:=HQ.out (fun e2=>hz (by rw [e2,oq];split <;> simp))
  omega
 exact ⟨rfl,(Br.out.G6 IK.out (by have:=HP.out;omega) (fun hz e=>hx _ hz (.inr rfl) e)).G6 HK3.out (by have:=HP.out;omega) (fun hz e=>hx _ hz (.inl rfl) e),hk⟩
theorem Og (p q:Nat) (zs:List Int) (bad:Bool) (w:World) (h:dO w p q zs bad) (hl:zs.length≤1099511627776) :
  Calls Tryd.prog 21 #[.pointer (some ⟨p,0,none⟩)] w fun e w'=>e = .returned (.agg (arr .u8 (ou zs bad 64)))∧dO w' p q (oq zs bad 64) (!jL zs bad 64)∧Kept (· = p) w w':=by
 obtain ⟨zn,hzn⟩:∃ zs:List Int,zs=List.replicate 64 0:=⟨_,rfl⟩
 have HZ:Hid (∀ w,(zeroValue 26).run Tryd.prog w = .ok (.agg (arr .u8 zn)) w):=Lib.hid (by intro w;rw [hzn];exact Sl.sJ w)
 have HLz:Hid (zn.length=64):=Lib.hid (by rw [hzn];rfl)
 have hb0:=((Below.refl _ w).alloc (Nat.le_refl _) (.cells (arr .u8 zn) 26)).alloc (by simp) (.cells (arr .u8 zn) 26)
 have VO:=h.lt
 have HQ:=Lib.hid (fun hz=>h.qlt hz)
 have hr:=fun (u:World) (k:dO u p q zs bad)=>pI p q zs bad 64 u k hl
 have hnl:(jl zs bad 64).length≤64:=OC zs bad 64
 have OZ:((arr .u8 zn).toList.take 0 ++ (jl zs bad 64).map (Value.int .u8) ++ (arr .u8 zn).toList.drop (0+(jl zs bad 64).length)).toArray=arr .u8 (ou zs bad 64):=by rw [hzn];exact GA zs bad 64
 have hvl:=mG zs bad 64
 obtain ⟨R,hR⟩:∃ R,R=jl zs bad 64:=⟨_,rfl⟩
 rw [← hR] at hr hnl OZ
 generalize ou zs bad 64=N at OZ hvl ⊢
 have HI0:Hid (((w.alloc (.cells (arr .u8 zn) 26)).alloc (.cells (arr .u8 zn) 26)).heap[w.heap.size]? = some (.cells (arr .u8 zn) 26 (0,0))):=Lib.hid (bf (aL w _) _)
 have HI1:Hid (((w.alloc (.cells (arr .u8 zn) 26)).alloc (.cells (arr .u8 zn) 26)).heap[w.heap.size+1]? = some (.cells (arr .u8 zn) 26 (0,0))):=Lib.hid (by have:=aL (w.alloc (.cells (arr .u8 zn) 26)) (.cells (arr .u8 zn) 26);rwa [World.size_alloc] at this)
 have HC:=Lib.hid (h.below hb0)
 have HB0:=Lib.hid hb0
 have HP:=Lib.hid VO
 have HR:=Lib.hid hr
 have xI:=Lib.hid hnl
 have HNV:=Lib.hid OZ
 have FZ:=Lib.hid hvl
 clear h hl hb0 VO hr hnl OZ hvl hR hzn
 go_enter Tryd.func21, Tryd.ntmps21
 go_upto_region 2 with (first|((with_reducible refine aS 2 ?_);refine aj rfl 26 rfl _ (HZ.out _) ?_)|((with_reducible refine aS 3 ?_);refine aj rfl 26 rfl _ (HZ.out _) ?_))
 (try simp only [World.size_alloc,Act.put,sA,sZ,sS])
 generalize ((w.alloc (.cells (arr .u8 zn) 26)).alloc (.cells (arr .u8 zn) 26))=wb at HI0 HI1 HC HB0 ⊢
 refine wp_region_held_drew (S:=fun u=>True) (by kernel_rfl) (trivial) (fun hHeld=>?_)
 refine wpAnyH_take (i:=0) (oi:=(⟨some 4,_,_,_,_,none⟩:Oper)) (v := .slice (some ⟨w.heap.size+1,0,none⟩) 64 64) rfl (by kernel_rfl) (by kernel_rfl) (by kernel_rfl) (fun _ _ _ h=>h) (Or.inl ⟨by rfl,?VK⟩) (by assumption) ?rest103
 case VK=>(intro u dW;(try dsimp only at dW);go_simp;try (with_reducible rfl))
 (try simp only [Act.put,sA,sZ,sS])
 refine wpAnyH_take (i:=1) (oi:=(⟨some 5,_,_,_,_,none⟩:Oper)) (v := .pointer (some ⟨p,0,none⟩)) rfl (by kernel_rfl) (by kernel_rfl) (by kernel_rfl) (fun _ _ _ h=>h) (Or.inl ⟨by rfl,?hy104⟩) (by assumption) ?rest104
 case hy104=>(intro u dW;(try dsimp only at dW);go_simp;try (with_reducible rfl))
 (try simp only [Act.put,sA,sZ,sS])
 refine wpAnyH_ready (rs:=[2]) (by kernel_rfl) (by simp) ?_
 refine AllReadyH.cons (o:=(⟨some 6,_,_,_,_,none⟩:Oper)) rfl (fun K hK=>?_) AllReadyH.nil
 go_simp
 go_at_call 18
 refine (HR.out _ (HC.out.below (Below.refl _ wb).drew)).mono ?_
 rintro e w1 ⟨v1,rfl,ho,hc,hk⟩
 have Br:=Lib.hid hc
 obtain ⟨s1,c1,rfl, -, -, hs1, -⟩:=ho.form
 have gY:=Lib.hid hs1
 have uH:Hid (Kept (· = p) wb w1):=Lib.hid ((Kept.of_below (Below.refl _ wb).drew).trans hk)
 have HJ0:=Lib.hid (uH.out.blk HI0.out (by have:=HP.out;omega))
 have HJ1:=Lib.hid (uH.out.blk HI1.out (by have:=HP.out;omega))
 clear ho hc hk hs1
 refine hK.out _ _ (trivial) (fun hHeld=>?_)
 clear hK K
 (try simp only [Act.put,sA,sZ,sS])
 refine wpAnyH_ready (rs:=[3]) (by kernel_rfl) (by simp) ?_
 refine AllReadyH.cons (o:=(⟨some 7,_,_,_,_,none⟩:Oper)) rfl (fun K hK=>?_) AllReadyH.nil
 refine yM rfl (.tmp 4) (.tmp 6) rfl (w.heap.size+1) 0 64 64 R.length c1 s1 (arr .u8 zn) R 26 rfl rfl HJ1.out gY.out xI.out (by rw [aF,HLz.out];have:=xI.out;omega) ?_
 intro w2 hb2 hk2
 rw [HNV.out] at hb2
 have oH:=Lib.hid hb2
 have SB:=Lib.hid (hk2.blk HJ0.out (by omega))
 have SB:=Lib.hid (hk2.blk HJ0.out (by omega))
 have IK:=Lib.hid hk2
 clear hb2 hk2
 refine hK.out _ _ (trivial) (fun hHeld=>?_)
 clear hK K
 (try simp only [Act.put,sA,sZ,sS])
 refine wpAnyH_done (by kernel_rfl) ?_ _
 (try simp only [Exit.then])
 clear hHeld
 go_wp2_with (first|((with_reducible refine aS 8 ?_);refine ak rfl 26 _ rfl (w.heap.size+1) 0 _ 26 (0,0) _ oH.out rfl .u8 N (au _ _) Tryd.underlying26 rfl (Sl.sig_i FZ.out) ?_)|((with_reducible refine aT 2 ?_);refine ah rfl 26 _ _ rfl (w.heap.size) _ _ 26 SB.out rfl rfl (ay _ _ FZ.out HLz.out) (Sl.kS FZ.out) (av _ _) ?_;intro w3 hb3 hk3 hz3;have HB3:=Lib.hid hb3;have HK3:=Lib.hid hk3;clear hb3 hk3 hz3))
 (try simp only [Exit.then])
 refine bodyPost_ret (results_cell_row rfl _ _ (w.heap.size) 26 _ (0,0) _ rfl HB3.out Tryd.underlying26 rfl (Sl.kS FZ.out)) rfl ?_
 have hk:Kept (· = p) w w3:=((((Kept.of_below HB0.out (T:=(· = p))).trans uH.out).cK IK.out (fun i hi e=>by have e:i=w.heap.size+1:=e;omega)).cK HK3.out (fun i hi e=>by have e:i=w.heap.size:=e;omega))
 have hx:∀ k,oq zs bad 64≠[]→k=w.heap.size∨k=w.heap.size+1→q≠k:=fun k hz hk e=>by
  have:=HQ.out (fun e2=>hz (by rw [e2,oq];split <;> simp))
  omega
 exact ⟨rfl,(Br.out.G6 IK.out (by have:=HP.out;omega) (fun hz e=>hx _ hz (.inr rfl) e)).G6 HK3.out (by have:=HP.out;omega) (fun hz e=>hx _ hz (.inl rfl) e),hk⟩
end Go.Proofs.YthdgbgleklkaiaaDoor.Mf
namespace Go.Proofs.YthdgbgleklkaiaaDoor.Mf
open Go.RowKit Lm Fp Cu Sl Sc Ce
section
variable {v b i:Int} {ro ks gs ss:List Int} {wv:Value}
theorem qo (x:Int):(aZ v b ro wv i ks gs ss).setIfInBounds 1 (.int .i64 x)=aZ v x ro wv i ks gs ss:=by
 apply Array.ext'
 rw [Array.toList_setIfInBounds,bP,bP]
 rfl
theorem kY (h1:ro.length=32) (x:Value):(aZ v b ro wv i ks gs ss).setIfInBounds 34 x=aZ v b ro x i ks gs ss:=by
 apply Array.ext'
 rw [Array.toList_setIfInBounds,bP,bP]
 simp only [List.set_cons_succ]
 rw [List.set_append_right _ _ (by simp [h1])]
 simp [h1]
theorem nG (h1:ro.length=32) (x:Int):(aZ v b ro wv i ks gs ss).setIfInBounds 35 (.int .i64 x)=aZ v b ro wv x ks gs ss:=by
 apply Array.ext'
 rw [Array.toList_setIfInBounds,bP,bP]
 simp only [List.set_cons_succ]
 rw [List.set_append_right _ _ (by simp [h1])]
 simp [h1]
theorem Q7 {r2:List Int} (h1:ro.length=32) (h2:r2.length=32):((aZ v b ro wv i ks gs ss).toList.take 2 ++ (arr .u8 r2).toList ++ (aZ v b ro wv i ks gs ss).toList.drop (2+(arr .u8 r2).size)).toArray=aZ v b r2 wv i ks gs ss:=by
 apply Array.ext'
 simp only [bP,bQ,aF,h2]
 simp [h1]
theorem J3 {k2:List Int} (h1:ro.length=32) (h2:ks.length=32) (h3:k2.length=32):((aZ v b ro wv i ks gs ss).toList.take 36 ++ (arr .u8 k2).toList ++ (aZ v b ro wv i ks gs ss).toList.drop (36+(arr .u8 k2).size)).toArray=aZ v b ro wv i k2 gs ss:=by
 apply Array.ext'
 simp only [bP,bQ,aF,h3]
 simp [h1,h2,List.take_append,List.drop_append,List.take_of_length_le,List.drop_of_length_le]
theorem J2 {g2:List Int} (h1:ro.length=32) (h2:ks.length=32) (h3:gs.length=64) (h4:g2.length=64):((aZ v b ro wv i ks gs ss).toList.take 68 ++ (arr .u8 g2).toList ++ (aZ v b ro wv i ks gs ss).toList.drop (68+(arr .u8 g2).size)).toArray=aZ v b ro wv i ks g2 ss:=by
 apply Array.ext'
 simp only [bP,bQ,aF,h4]
 simp [h1,h2,h3,List.take_append,List.drop_append,List.take_of_length_le,List.drop_of_length_le]
theorem wM {s2:List Int} (h1:ro.length=32) (h2:ks.length=32) (h3:gs.length=64) (h4:ss.length=64) (h5:s2.length=64):((aZ v b ro wv i ks gs ss).toList.take 132 ++ (arr .u8 s2).toList ++ (aZ v b ro wv i ks gs ss).toList.drop (132+(arr .u8 s2).size)).toArray=aZ v b ro wv i ks gs s2:=by
 apply Array.ext'
 simp only [bP,bQ,aF,h5]
 simp [h1,h2,h3,h4,List.take_append,List.drop_append,List.take_of_length_le,List.drop_of_length_le]
theorem iO (hw:wv.oneCell'=true):(aZ v b ro wv i ks gs ss).all (·.oneCell')=true:=by
 rw [Array.all_eq_true_iff_forall_mem]
 intro x hx
 rw [← Array.mem_toList_iff,bP] at hx
 simp only [List.mem_cons,List.mem_append,List.mem_map] at hx
 rcases hx with rfl|rfl|⟨y, -, rfl⟩|rfl|rfl|⟨y, -, rfl⟩|⟨y, -, rfl⟩|⟨y, -, rfl⟩
 all_goals first|rfl|exact hw
end
def z32:List Int:=List.replicate 32 0
def z64:List Int:=List.replicate 64 0
def gU:Array Value:=aZ 0 0 z32 (.slice none 0 0) 0 z32 z64 z64
theorem mo (w:World):(zeroValue 30).run Tryd.prog w = .ok (.agg gU) w:=by kernel_rfl
theorem Ac (w:World):(Instr.build 30 #[]).run Tryd.prog w = .ok (.agg gU) w:=by kernel_rfl
theorem L9 (v:Int) (w:World):(Instr.build 30 #[(0, .int .i64 v)]).run Tryd.prog w = .ok (.agg (aZ v 0 z32 (.slice none 0 0) 0 z32 z64 z64)) w:=by kernel_rfl
theorem dH:(Tryd.prog.info? 30).map (·.size)=some 196:=by kernel_rfl
def st (n:Int) (c:List Int×Bool):List Int×Bool:=(oq c.1 c.2 n, !jL c.1 c.2 n)
def GQ (xs:List Int):=st 4 (xs,false)
def ow (xs:List Int):=st 8 (GQ xs)
def I8 (xs:List Int):=st 8 (ow xs)
def I7 (xs:List Int):=st 32 (I8 xs)
def I6 (xs:List Int):=st 80 (I7 xs)
def I5 (xs:List Int):=st 8 (I6 xs)
def I4 (xs:List Int):=st 32 (I5 xs)
def JY (xs:List Int):=st 64 (I4 xs)
def mc9 (xs:List Int):=st 64 (JY xs)
def fH (xs:List Int):List Int:=jl xs false 4
def fv (xs:List Int):Int:=zD (GQ xs).1 (GQ xs).2
def fb (xs:List Int):Int:=zD (ow xs).1 (ow xs).2
def Jb (xs:List Int):List Int:=ou (I8 xs).1 (I8 xs).2 32
def fws (xs:List Int):List Int:=jl (I7 xs).1 (I7 xs).2 80
def fi (xs:List Int):Int:=zD (I6 xs).1 (I6 xs).2
def H9 (xs:List Int):List Int:=ou (I5 xs).1 (I5 xs).2 32
def Ia (xs:List Int):List Int:=ou (I4 xs).1 (I4 xs).2 64
def Hw (xs:List Int):List Int:=ou (JY xs).1 (JY xs).2 64
def fE (xs:List Int):Bool := !(mc9 xs).2 && decide ((mc9 xs).1.length=0)
def SG (xs:List Int):Bool:=fE xs && decide (fH xs=[80,67,77,49]) && iJ (fv xs) (fb xs) (fws xs).length (fi xs)
theorem ni (n:Int) (c:List Int×Bool):(st n c).1.length≤c.1.length:=raw_len _ _ _
theorem st_ne {n:Int} {c:List Int×Bool} (h:(st n c).1≠[]):c.1≠[]:=fun e=>h (by
 have h1:=ni n c
 rw [e] at h1
 exact List.eq_nil_of_length_eq_zero (by simpa using h1))
theorem mc_len (xs:List Int):(GQ xs).1.length≤xs.length∧(ow xs).1.length≤xs.length∧(I8 xs).1.length≤xs.length∧(I7 xs).1.length≤xs.length∧(I6 xs).1.length≤xs.length∧(I5 xs).1.length≤xs.length∧(I4 xs).1.length≤xs.length∧(JY xs).1.length≤xs.length:=by
 have h1:(GQ xs).1.length≤xs.length:=ni 4 (xs,false)
 have h2:(ow xs).1.length≤_:=ni 8 (GQ xs)
 have h3:(I8 xs).1.length≤_:=ni 8 (ow xs)
 have h4:(I7 xs).1.length≤_:=ni 32 (I8 xs)
 have h5:(I6 xs).1.length≤_:=ni 80 (I7 xs)
 have h6:(I5 xs).1.length≤_:=ni 8 (I6 xs)
 have h7:(I4 xs).1.length≤_:=ni 32 (I5 xs)
 have h8:(JY xs).1.length≤_:=ni 64 (I4 xs)
 omega
theorem str_cm:strOfNums [80,67,77,49]=⟨#[80,67,77,49]⟩:=by rfl
theorem cm_list:(⟨#[80,67,77,49]⟩:ByteArray).toList=[80,67,77,49]:=by decide +kernel
structure mQ (w u:World) (xs:List Int) (g6:Nat) (M:Array Value) (c:List Int×Bool) (p q:Nat):Prop where
 i:u.heap[w.heap.size]? = some (.cells gU 30 (0,0))
 m:u.heap[g6]? = some (.cells M 30 (0,0))
 cu:dO u p q c.1 c.2
 n1:w.heap.size≠p
 n2:g6≠p
 n3:w.heap.size < g6
 n4:w.heap.size≤p
 nq:xs≠[]→q≠g6
 le:c.1≠[]→xs≠[]
 b:Below w.heap.size w u
theorem mQ.turn {w u u':World} {xs:List Int} {g6 p q:Nat} {M:Array Value} {c:List Int×Bool} {n:Int} (h:mQ w u xs g6 M c p q) (k:Kept (· = p) u u') (hc:dO u' p q (st n c).1 (st n c).2):mQ w u' xs g6 M (st n c) p q :=
 ⟨k.blk h.i h.n1,k.blk h.m h.n2,hc,h.n1,h.n2,h.n3,h.n4,h.nq,fun e=>h.le (st_ne e),h.b.trans ⟨k.os,k.tape,k.output,k.size,fun j hj=>k.block j (Nat.lt_of_lt_of_le hj h.b.size) (by have:=h.n4;omega)⟩⟩
theorem mQ.put {w u u':World} {xs:List Int} {g6 p q:Nat} {M M':Array Value} {c:List Int×Bool} (h:mQ w u xs g6 M c p q) (k:Kept (fun x=>x=g6) u u') (hm:u'.heap[g6]? = some (.cells M' 30 (0,0))):mQ w u' xs g6 M' c p q :=
 ⟨k.blk h.i (by have:=h.n3;omega),hm,h.cu.G6 k (fun e=>h.n2 e.symm) (fun hz e=>h.nq (h.le hz) e),h.n1,h.n2,h.n3,h.n4,h.nq,h.le,h.b.trans ⟨k.os,k.tape,k.output,k.size,fun j hj=>k.block j (Nat.lt_of_lt_of_le hj h.b.size) (by have:=h.n3;omega)⟩⟩
theorem mQ.set {w u:World} {xs:List Int} {g6 p q:Nat} {M:Array Value} {c:List Int×Bool} (h:mQ w u xs g6 M c p q) (o:Nat) (x:Value):mQ w (u.setCell ⟨g6,o,none⟩ x) xs g6 (M.setIfInBounds o x) c p q :=
 h.put ((Kept.refl _ u).at o x) (bC h.m x)
theorem mQ.fresh {w u u':World} {xs:List Int} {g6 p q:Nat} {M:Array Value} {c:List Int×Bool} (h:mQ w u xs g6 M c p q) (k:Below u.heap.size u u'):mQ w u' xs g6 M c p q :=
 ⟨Below.blk k h.i (aR h.i),Below.blk k h.m (aR h.m),h.cu.below k,h.n1,h.n2,h.n3,h.n4,h.nq,h.le,h.b.trans (k.mono h.b.size)⟩
end Go.Proofs.YthdgbgleklkaiaaDoor.Mf
namespace Go.Proofs.YthdgbgleklkaiaaDoor.Ce
open Go.RowKit Lm Fp Cu Sl Sc
theorem UM (t:TypeId) (d:TypeDesc) (hu : Tryd.prog.underlying t=some d) (hd:Mj d=false) (cs:Array Value) (off:Nat) (v:Value) (h:cs[off]? = some v) (w:World):(part t cs off).run Tryd.prog w = .ok v w:=by
 have ha:(isAgg t).run Tryd.prog w = .ok false w:=by
  unfold isAgg
  simp only [Sem.run_bind,run_underlying hu,Result.andThen_ok]
  cases d <;> simp_all [Mj]
 simp [part,ha,h]
theorem Gz (t:TypeId) (n:Nat) (hu:∃ d, Tryd.prog.underlying t=some d∧Mj d=true) (hs:∀ w,(sizeOf t).run Tryd.prog w = .ok n w) (cs:Array Value) (off:Nat) (w:World):(part t cs off).run Tryd.prog w = .ok (.agg (cs.extract off (off+n))) w:=by
 obtain ⟨d,hu,hd⟩:=hu
 have ha:(isAgg t).run Tryd.prog w = .ok true w:=by
  unfold isAgg
  simp only [Sem.run_bind,run_underlying hu,Result.andThen_ok]
  cases d <;> simp_all [Mj]
 simp [part,ha,hs]
theorem RX (id:Int) (ks gs:List Int) (hk:ks.length=32):(dh id ks gs).extract 1 (1+32)=arr .u8 ks:=by
 apply Array.ext'
 simp [dh,arr,Array.toList_extract,List.extract,hk,List.take_of_length_le]
theorem RU (id:Int) (ks gs:List Int) (hk:ks.length=32) (h:gs.length=64):(dh id ks gs).extract 33 (33+64)=arr .u8 gs:=by
 apply Array.ext'
 simp [dh,arr,Array.toList_extract,List.extract,hk,h,List.take_of_length_le,List.drop_of_length_le]
theorem eq_cert (id:Int) (ks gs:List Int) (hk:ks.length=32) (h:gs.length=64) (w:World):(Op.equalIn 10000 28 (.agg (dh id ks gs)) (.agg (dh id ks gs))).run Tryd.prog w = .ok true w:=by
 rw [run_equalIn_struct w 9999 28 _ _ Tryd.underlying28 (by kernel_rfl)]
 have hf:(Tryd.prog.fieldsOf 28).toList.map (fun f=>(f.name == "_", f.type,f.offset))=[(false, 3, 0),(false, 23, 1),(false, 26, 33)]:=by kernel_rfl
 generalize (Tryd.prog.fieldsOf 28).toList=fs at hf ⊢
 obtain ⟨f0,r0,rfl,h0,hr⟩:=List.map_eq_cons_iff.1 hf
 obtain ⟨f1,r1,rfl,h1,hr⟩:=List.map_eq_cons_iff.1 hr
 obtain ⟨f2,r2,rfl,h2,hr⟩:=List.map_eq_cons_iff.1 hr
 obtain rfl:=List.map_eq_nil_iff.1 hr
 simp only [Prod.mk.injEq,beq_eq_false_iff_ne] at h0 h1 h2
 obtain ⟨a1,a2,a3⟩:=h0
 obtain ⟨b1,b2,b3⟩:=h1
 obtain ⟨c1,c2,c3⟩:=h2
 have p0:=fun w=>UM 3 _ Tryd.underlying3 rfl (dh id ks gs) 0 _ (Zq id ks gs) w
 have p1:=fun w=>Gz 23 32 ⟨_, Tryd.underlying23, rfl⟩ (fun w=>by kernel_rfl) (dh id ks gs) 1 w
 rw [RX id ks gs hk] at p1
 have p2:=fun w=>Gz 26 64 ⟨_, Tryd.underlying26, rfl⟩ (fun w=>by kernel_rfl) (dh id ks gs) 33 w
 rw [RU id ks gs hk h] at p2
 have e1:=fun w=>fq w 9997 23 5 32 .u8 .u8 Tryd.underlying23 Tryd.underlying5 (fun w=>by kernel_rfl) ks ks hk hk
 have e2:=fun w=>fq w 9997 26 5 64 .u8 .u8 Tryd.underlying26 Tryd.underlying5 (fun w=>by kernel_rfl) gs gs h h
 have e0:=fun w=>run_equalIn_int w 9998 3 .i64 _ id id Tryd.underlying3
 simp [Op.eqFields,p0,p1,p2,e0,e1,e2,a1,a2,a3,b1,b2,b3,c1,c2,c3]
theorem Zd {o:Oper} {ρ:Operand→Value} {t ty:TypeId} {x y:Operand} {cs:Array Value} (ho:o.op = .binOp .eql t x y ty) (hm : Tryd.prog.eqGuardType Tryd.prog.depth t=false) (hx:ρ x = .agg cs) (hy:ρ y = .agg cs) (he:∀ w,(Op.equalIn 10000 t (.agg cs) (.agg cs)).run Tryd.prog w = .ok true w) (w:World):(execOp ρ o).run Tryd.prog w = .ok (.value (.bool true)) w:=by
 simp only [execOp,ho,hx,hy,Sem.run_bind,run_eqGuard_agg w .eql t x y _ _ hm,Result.andThen_ok,run_eql_struct,he]
 rfl
theorem vg {o:Oper} {ρ:Operand→Value} {t ty:TypeId} {x y:Operand} {cs:Array Value} (ho:o.op = .binOp .eql t x y ty) (hm : Tryd.prog.eqGuardType Tryd.prog.depth t=false) (e:[x,y].map ρ=[.agg cs, .agg cs]) (he:∀ w,(Op.equalIn 10000 t (.agg cs) (.agg cs)).run Tryd.prog w = .ok true w) (w:World):(execOp ρ o).run Tryd.prog w = .ok (.value (.bool true)) w:=by
 simp only [List.map_cons,List.map_nil,List.cons.injEq,and_true] at e
 exact Zd ho hm e.1 e.2 he w
theorem eg_cert : Tryd.prog.eqGuardType Tryd.prog.depth 28 = false:=by kernel_rfl
end Go.Proofs.YthdgbgleklkaiaaDoor.Ce
namespace Go.Proofs.YthdgbgleklkaiaaDoor.Ce
open Go.RowKit Go.ChangeShapes Go.WideShapes Lm Fp Cu Sl Sc
theorem eG {P:Program} {ops:Array Oper} {rest:List Oper} {o:Oper} {a:Act} {w:World} {Q:Exit→Act→World→Prop} (hgd:Region.wanted o (yielded ops a.tmps)=true) (ty:TypeId) (x:Operand) (ho:o.op = .load ty x)
  (g:Nat) (hx:a.eval x = .pointer (some ⟨g,0,none⟩)) (t:TypeId) (cs:Array Value) (fr:Nat×Nat) (d:TypeDesc) (hg:w.heap[g]? = some (.cells cs t fr))
  (hu:P.underlying ty=some d) (hd:(match d with | .struct _ | .array _ _=>true|_=>false)=true) (hi:(P.info? ty).map (·.size)=some cs.size)
  (h:wpList P ops Q rest (a.put o.dst (.agg cs)) w):wpList P ops Q (o :: rest) a w:=by
 unfold wpList
 rw [if_pos hgd]
 exact .inl (wp_load_row ty x ho g hx t cs fr d hg hu hd hi h)
theorem _root_.Go.Proofs.YthdgbgleklkaiaaDoor.bM.holdsT {w u:World} {L:List (Nat×Array Value×TypeId)} (h:bM w u L):Holds (fun g=>∃ e∈L,e.1=g) u u fun κ=>(Cq L)[κ]? := by
 have h0:=h.holds
 refine ⟨fun i g p hi=>⟨(h0.mem i g p hi).1, .inl ?_⟩,h0.inj,Kept.refl _ _⟩
 have hi:(Cq L)[i]? = some (g,p):=hi
 simp only [Cq,List.getElem?_map,Option.map_eq_some_iff,Prod.mk.injEq] at hi
 obtain ⟨x,h1,h2, -⟩:=hi
 exact ⟨x,List.mem_of_getElem? h1,h2⟩
theorem _root_.Go.Proofs.YthdgbgleklkaiaaDoor.bM.Me {w u u':World} {L:List (Nat×Array Value×TypeId)} (h:bM w u L) (k:Kept (fun g=>∃ e∈L,e.1=g) u u'):Below w.heap.size w u' :=
 h.below.trans ⟨k.os,k.tape,k.output,k.size,fun i hi=>k.block i (Nat.lt_of_lt_of_le hi h.below.size) (by
  rintro ⟨e,he,rfl⟩
  obtain ⟨j,hj,e2⟩:=List.getElem_of_mem he
  have:=h.low j (g:=e.1) (c:=e.2.1) (t:=e.2.2) (by rw [List.getElem?_eq_getElem hj,e2])
  omega)⟩
theorem Ci {w:World} {a:Option Addr} {len cap:Nat} {zs:List Int} (h:BJ .u8 w a len cap zs):Src w a len (zs.take len)∧bytes (zs.take len)∧len≤cap:=by
 rcases h with ⟨rfl,rfl,rfl,rfl⟩|⟨x,rfl,hl,hm,hz,hc,hw⟩
 ·exact ⟨⟨rfl,fun i hi=>absurd hi (by omega)⟩,fun x hx=>by simp at hx,Nat.le_refl _⟩
 ·refine ⟨⟨by simp;omega,fun i hi=>⟨x,rfl,?_⟩⟩,fun y hy=>wf_u8 (hw y (List.mem_of_mem_take hy)),hl⟩
  rw [hc i (by omega)]
  simp [List.getD,hi]
end Go.Proofs.YthdgbgleklkaiaaDoor.Ce
namespace Go.Proofs.YthdgbgleklkaiaaDoor
open Go.RowKit
theorem Holds.blkT {w u u':World} {L0:List (Nat×Array Value×TypeId)} {M:Nat→Option (Nat×OP)} (hb:bM w u L0) (h:Holds (fun g=>∃ e∈L0,e.1=g) u u' M) (ks:List Nat) (l:List (Nat×Array Value×TypeId)) (hd:ks.Nodup) (hl:ks.map M=l.map fun e=>some (e.1,Bp e.2.1 e.2.2)):bM w u' l:=by
 have hlen:ks.length=l.length:=by have:=congrArg List.length hl;simpa using this
 have hx:∀ (i g:Nat) (c:Array Value) (t:TypeId),l[i]? = some (g,c,t)→∃ κ,ks[i]? = some κ∧M κ=some (g,Bp c t):=by
  intro i g c t hi
  have h1:(ks.map M)[i]? = some (some (g,Bp c t)):=by rw [hl,List.getElem?_map,hi];rfl
  rw [List.getElem?_map] at h1
  obtain ⟨κ,h2,h3⟩:=Option.map_eq_some_iff.1 h1
  exact ⟨κ,h2,h3⟩
 refine ⟨fun i g c t hi=>?_,fun i j g c t c' t' hi hj=>?_,hb.Me h.keep⟩
 ·obtain ⟨κ,_,h2⟩:=hx i g c t hi
  obtain ⟨⟨o,ho,rfl⟩,hT⟩:=h.mem κ g _ h2
  refine ⟨ho,?_⟩
  rcases hT with ⟨⟨g',c',t'⟩,he,rfl⟩|hT
  ·obtain ⟨k,hk⟩:=List.mem_iff_getElem?.1 he
   exact hb.low k hk
  ·exact Nat.le_trans hb.below.size hT
 ·obtain ⟨κ,h1,h2⟩:=hx i g c t hi
  obtain ⟨κ',h3,h4⟩:=hx j g c' t' hj
  have e:=h.inj κ κ' g _ _ h2 h4
  subst e
  obtain ⟨i1,i2⟩:=List.getElem?_eq_some_iff.1 h1
  obtain ⟨j1,j2⟩:=List.getElem?_eq_some_iff.1 h3
  exact (List.getElem_inj (h₀:=i1) (h₁:=j1) hd).1 (i2.trans j2.symm)
end Go.Proofs.YthdgbgleklkaiaaDoor
namespace Go.Proofs.YthdgbgleklkaiaaDoor.Mf
open Go.RowKit Lm Fp Cu Sl Sc Ce
theorem Rw (v b i:Int) (s:Option Addr) (n c:Nat) {ro ks gs:List Int} (h1:ro.length=32) (h2:ks.length=32) (h3:gs.length=64) (z:List Value) (hz:z.length=196) :
  Instr.fill (fun x => #[((0:Nat),1),(1,1),(2,32),(34,1),(35,97),(132,64)][x]?) z.toArray [(0, .int .i64 v),(1, .int .i64 b),(2, .agg (arr .u8 ro)),(3, .slice s n c),(4, .agg (dh i ks gs))]=some (([Value.int .i64 v,Value.int .i64 b]:List Value) ++ ro.map (Value.int .u8) ++ [Value.slice s n c] ++ (dh i ks gs).toList ++ z.drop 132).toArray:=by
 have hc:(dh i ks gs).size=97:=jD h3 h2
 have a0:=pE (fun x => #[((0:Nat),1),(1,1),(2,32),(34,1),(35,97),(132,64)][x]?) [] z (.int .i64 v) 0 0 [(1, .int .i64 b),(2, .agg (arr .u8 ro)),(3, .slice s n c),(4, .agg (dh i ks gs))] rfl rfl (by simp [Value.cells,hz])
 have a1:=pE (fun x => #[((0:Nat),1),(1,1),(2,32),(34,1),(35,97),(132,64)][x]?) [.int .i64 v] (z.drop 1) (.int .i64 b) 1 1 [(2, .agg (arr .u8 ro)),(3, .slice s n c),(4, .agg (dh i ks gs))] rfl rfl (by simp [Value.cells,hz])
 have a2:=pE (fun x => #[((0:Nat),1),(1,1),(2,32),(34,1),(35,97),(132,64)][x]?) [.int .i64 v, .int .i64 b] (z.drop 2) (.agg (arr .u8 ro)) 2 2 [(3, .slice s n c),(4, .agg (dh i ks gs))] rfl (by simp [Value.cells,arr,h1]) (by simp [Value.cells,arr,h1,hz])
 have a3:=pE (fun x => #[((0:Nat),1),(1,1),(2,32),(34,1),(35,97),(132,64)][x]?) ([Value.int .i64 v,Value.int .i64 b] ++ ro.map (Value.int .u8)) (z.drop 34) (.slice s n c) 3 34 [(4, .agg (dh i ks gs))] (by simp [h1]) rfl (by simp [Value.cells,hz])
 have a4:=pE (fun x => #[((0:Nat),1),(1,1),(2,32),(34,1),(35,97),(132,64)][x]?) ([Value.int .i64 v,Value.int .i64 b] ++ ro.map (Value.int .u8) ++ [Value.slice s n c]) (z.drop 35) (.agg (dh i ks gs)) 4 35 [] (by simp [h1]) (by simp [Value.cells,hc]) (by simp [Value.cells,hc,hz])
 have e2:(z.drop 2).drop (Value.agg (arr .u8 ro)).cells.size=z.drop 34:=by simp [Value.cells,arr,h1]
 have e4:(z.drop 35).drop (Value.agg (dh i ks gs)).cells.size=z.drop 132:=by simp [Value.cells,hc]
 rw [List.nil_append] at a0
 rw [a0]
 refine a1.trans ?_
 refine Eq.trans ?_ (a2.trans ?_)
 ·simp [Value.cells]
 rw [e2]
 refine Eq.trans ?_ (a3.trans ?_)
 ·simp [Value.cells,arr]
 refine Eq.trans ?_ (a4.trans ?_)
 ·simp [Value.cells]
 rw [e4,Instr.fill]
 simp [Value.cells]
theorem Ma (v b i:Int) (s:Option Addr) (n c:Nat) {ro ks gs:List Int} (h1:ro.length=32) (h2:ks.length=32) (h3:gs.length=64) (w:World) :
  (Instr.build 30 #[(0, .int .i64 v),(1, .int .i64 b),(2, .agg (arr .u8 ro)),(3, .slice s n c),(4, .agg (dh i ks gs))]).run Tryd.prog w = .ok (.agg (aZ v b ro (.slice s n c) i ks gs z64)) w:=by
 unfold Instr.build
 simp only [Sem.run_bind,mo,Result.andThen_ok,run_underlying Tryd.underlying30]
 refine (congrArg (fun R=>Result.andThen R _) (show _=Result.ok #[((0:Nat),1),(1,1),(2,32),(34,1),(35,97),(132,64)] w from ?h)).trans ?_
 case h=>kernel_rfl
 simp only [Result.andThen_ok]
 have hm:gU.toList.length=196:=by rw [Array.length_toList];exact bL rfl rfl rfl rfl
 have hf:=Rw v b i s n c h1 h2 h3 gU.toList hm
 rw [show (Value.agg gU).cells=gU.toList.toArray by simp [Value.cells],hf]
 have hd:gU.toList.drop 132=z64.map (Value.int .u8):=by
  have:=xQ (v:=0) (b:=0) (i:=0) (ro:=z32) (ks:=z32) (gs:=z64) (ss:=z64) (wv := .slice none 0 0) rfl rfl rfl
  rw [show gU.toList.drop 132=(gU.toList.drop 132).take z64.length from (List.take_of_length_le (by rw [List.length_drop,hm];decide)).symm]
  exact this
 have e:([Value.int .i64 v, .int .i64 b] ++ ro.map (Value.int .u8) ++ [Value.slice s n c] ++ (dh i ks gs).toList ++ gU.toList.drop 132).toArray=aZ v b ro (.slice s n c) i ks gs z64:=by
  apply Array.ext'
  rw [hd,bP]
  simp [dh,arr]
 rw [e]
 rfl
end Go.Proofs.YthdgbgleklkaiaaDoor.Mf
namespace Go.Proofs.YthdgbgleklkaiaaDoor.Ce
open Go.RowKit Lm Fp Cu Sl Sc
theorem UR (u x:Nat) (hu:u < 2 ^ 56) (hx:x < 256):bits .or .u64 (IntKind.u64.wrap ((u:Int) * 256)) (IntKind.u64.wrap (x:Int))=((u * 256+x:Nat):Int):=by
 have e1:IntKind.u64.wrap ((u:Int) * 256)=((u * 256:Nat):Int):=by rw [IntKind.wrap_u64];omega
 have e2:IntKind.u64.wrap (x:Int)=(x:Int):=by rw [IntKind.wrap_u64];omega
 rw [e1,e2]
 show IntKind.u64.wrap ((BitVec.ofInt 64 ((u * 256:Nat):Int) ||| BitVec.ofInt 64 (x:Int)).toNat:Int)=_
 have hy:x < 2 ^ 8:=hx
 rw [BitVec.ofInt_natCast,BitVec.ofInt_natCast,BitVec.toNat_or,BitVec.toNat_ofNat,BitVec.toNat_ofNat,Nat.mod_eq_of_lt (by omega),Nat.mod_eq_of_lt (by omega),show u * 256=2 ^ 8 * u by omega,← Nat.two_pow_add_eq_or_of_lt hy,IntKind.wrap_u64]
 omega
theorem Iq (ys:List Int) (hb:bytes ys):∀ j,j≤ys.length→j≤8→∃ u:Nat,BI (ys.take j)=(u:Int)∧u < 256 ^ j∧∀ k,k < 8→k < j→u / 256 ^ (j - 1 - k) % 256=(ys.getD k 0).toNat
 | 0,_,_=>⟨0,rfl,by decide,fun k _ h=>absurd h (Nat.not_lt_zero _)⟩
 | j+1,hj,h8=>by
  obtain ⟨u,h1,h2,h3⟩:=Iq ys hb j (by omega) (by omega)
  have hx:=bytes_at hb j
  obtain ⟨x,hxe⟩:∃ x:Nat,ys.getD j 0=(x:Int):=⟨(ys.getD j 0).toNat,by omega⟩
  have hx2:x < 256:=by omega
  have hu:u < 2 ^ 56:=Nat.lt_of_lt_of_le h2 (by
   have:(256:Nat) ^ j≤256 ^ 7:=Nat.pow_le_pow_right (by decide) (by omega)
   exact Nat.le_trans this (by decide))
  refine ⟨u * 256+x,?_,?_,?_⟩
  ·rw [Dh ys j (by omega),h1,hxe,UR u x hu hx2]
  ·rw [Nat.pow_succ];omega
  ·intro k hk hkj
   by_cases e:k=j
   ·subst e
    rw [show k+1 - 1 - k=0 by omega,Nat.pow_zero,Nat.div_one,hxe]
    omega
   ·have:=h3 k hk (by omega)
    rw [← this,show j+1 - 1 - k=(j - 1 - k)+1 by omega,Nat.pow_succ,Nat.mul_comm (256 ^ (j - 1 - k)) 256,← Nat.div_div_eq_div_mul,show (u * 256+x) / 256=u by omega]
theorem Zw (n:Int) (h:0≤n) (h2:n < 2 ^ 63) (zs:List Int):BI ((jo n ++ zs).take 8)=n:=by
 have hb:bytes (jo n):=kP n
 have e:(jo n ++ zs).take 8=jo n:=by rw [List.take_append_of_le_length (by rw [gW];exact Nat.le_refl _),List.take_of_length_le (by rw [gW];exact Nat.le_refl _)]
 obtain ⟨m,rfl⟩:=Int.eq_ofNat_of_zero_le h
 obtain ⟨u,h1,h3,h4⟩:=Iq (jo m) hb 8 (by rw [gW];omega) (by omega)
 rw [List.take_of_length_le (by rw [gW];omega)] at h1
 rw [e,h1]
 have hm:m < 2 ^ 63:=by omega
 have g:∀ k,k < 8→u / 256 ^ (7 - k) % 256=m / 256 ^ (7 - k) % 256:=by
  intro k hk
  have:=h4 k hk hk
  rw [this]
  have e2:(jo (m:Int)).getD k 0=(m:Int) / 2 ^ (8 * (7 - k)) % 256:=by simp [jo,List.getD,hk]
  rw [e2,show (256:Nat) ^ (7 - k)=2 ^ (8 * (7 - k)) by rw [Nat.pow_mul]]
  have:((m:Int) / 2 ^ (8 * (7 - k)) % 256)=((m / 2 ^ (8 * (7 - k)) % 256:Nat):Int):=by
   rw [Int.natCast_emod,Int.natCast_ediv,Int.natCast_pow];rfl
  rw [this,Int.toNat_natCast]
 have g0:=g 0 (by omega)
 have g1:=g 1 (by omega)
 have g2:=g 2 (by omega)
 have g3:=g 3 (by omega)
 have g4:=g 4 (by omega)
 have g5:=g 5 (by omega)
 have g6:=g 6 (by omega)
 have g7:=g 7 (by omega)
 simp only [Nat.sub_zero,Nat.reduceSub,Nat.reducePow] at g0 g1 g2 g3 g4 g5 g6 g7
 rw [show (256:Nat) ^ 8=18446744073709551616 by decide] at h3
 congr 1
 omega
theorem zC (n:Int) (h:0≤n) (h2:n < 2 ^ 63) (zs:List Int):zD (jo n ++ zs) false=n:=by
 unfold zD jl
 have:jL (jo n ++ zs) false 8=true:=iY.2 ⟨rfl,by omega,by rw [List.length_append,gW];omega⟩
 rw [if_pos this,show (8:Int).toNat=8 from rfl,Zw n h h2]
 exact IntWalk.wrap64_in n ⟨by omega,by omega⟩
end Go.Proofs.YthdgbgleklkaiaaDoor.Ce
namespace Go.Proofs.YthdgbgleklkaiaaDoor.Mf
open Go.RowKit Lm Fp Cu Sl Sc Ce
theorem kC (xs:List Int) (a n:Nat) (h:a+n≤xs.length):st n (xs.drop a,false)=(xs.drop (a+n),false):=by
 have o:jL (xs.drop a) false n=true:=iY.2 ⟨rfl,by omega,by rw [List.length_drop];omega⟩
 unfold st
 simp only [oq,o,if_true,Int.toNat_natCast,List.drop_drop,Bool.not_true]
theorem sP {c:List Int×Bool} {n:Nat} (h:(st n c).2=false):c.2=false∧n≤c.1.length∧(st n c).1.length=c.1.length - n:=by
 have o:jL c.1 c.2 n=true:=by
  have:(!jL c.1 c.2 n)=false:=h
  simpa using this
 obtain ⟨h1, -, h2⟩:=iY.1 o
 refine ⟨h1,by omega,?_⟩
 show (oq c.1 c.2 n).length=_
 rw [oq,if_pos o,List.length_drop,Int.toNat_natCast]
theorem mcs (xs:List Int) (h:300≤xs.length):GQ xs=(xs.drop 4,false)∧ow xs=(xs.drop 12,false)∧I8 xs=(xs.drop 20,false)∧I7 xs=(xs.drop 52,false)∧I6 xs=(xs.drop 132,false)∧I5 xs=(xs.drop 140,false)∧I4 xs=(xs.drop 172,false)∧JY xs=(xs.drop 236,false)∧mc9 xs=(xs.drop 300,false):=by
 have e1:GQ xs=(xs.drop 4,false):=by
  have:=kC xs 0 4 (by omega)
  rwa [List.drop_zero] at this
 have e2:ow xs=(xs.drop 12,false):=by unfold ow;rw [e1];exact kC xs 4 8 (by omega)
 have e3:I8 xs=(xs.drop 20,false):=by unfold I8;rw [e2];exact kC xs 12 8 (by omega)
 have e4:I7 xs=(xs.drop 52,false):=by unfold I7;rw [e3];exact kC xs 20 32 (by omega)
 have e5:I6 xs=(xs.drop 132,false):=by unfold I6;rw [e4];exact kC xs 52 80 (by omega)
 have e6:I5 xs=(xs.drop 140,false):=by unfold I5;rw [e5];exact kC xs 132 8 (by omega)
 have e7:I4 xs=(xs.drop 172,false):=by unfold I4;rw [e6];exact kC xs 140 32 (by omega)
 have e8:JY xs=(xs.drop 236,false):=by unfold JY;rw [e7];exact kC xs 172 64 (by omega)
 have e9:mc9 xs=(xs.drop 300,false):=by unfold mc9;rw [e8];exact kC xs 236 64 (by omega)
 exact ⟨e1,e2,e3,e4,e5,e6,e7,e8,e9⟩
theorem Zb (xs:List Int):fE xs=decide (xs.length=300):=by
 by_cases h:300≤xs.length
 ·obtain ⟨-, -, -, -, -, -, -, -, e⟩:=mcs xs h
  have l:(xs.drop 300).length=xs.length - 300:=List.length_drop
  unfold fE
  rw [e]
  show (!false && decide ((xs.drop 300).length=0))=_
  rw [l]
  by_cases h2:xs.length=300
  ·rw [decide_eq_true h2,decide_eq_true (show xs.length - 300=0 by omega)];rfl
  ·rw [decide_eq_false h2,decide_eq_false (show ¬ xs.length - 300=0 by omega)];rfl
 ·rw [decide_eq_false (by omega)]
  unfold fE
  cases hb:(mc9 xs).2 with
  | true=>rfl
  | false =>
   exfalso
   obtain ⟨h8,l8,m9⟩:=sP (n:=64) (c:=JY xs) hb
   obtain ⟨h7,l7,m8⟩:=sP (n:=64) (c:=I4 xs) h8
   obtain ⟨h6,l6,m7⟩:=sP (n:=32) (c:=I5 xs) h7
   obtain ⟨h5,l5,m6⟩:=sP (n:=8) (c:=I6 xs) h6
   obtain ⟨h4,l4,m5⟩:=sP (n:=80) (c:=I7 xs) h5
   obtain ⟨h3,l3,m4⟩:=sP (n:=32) (c:=I8 xs) h4
   obtain ⟨h2,l2,m3⟩:=sP (n:=8) (c:=ow xs) h3
   obtain ⟨h1,l1,m2⟩:=sP (n:=8) (c:=GQ xs) h2
   obtain ⟨h0,l0,m1⟩:=sP (n:=4) (c:=(xs,false)) h1
   change (GQ xs).1.length=xs.length - 4 at m1
   change (ow xs).1.length=_ at m2
   change (I8 xs).1.length=_ at m3
   change (I7 xs).1.length=_ at m4
   change (I6 xs).1.length=_ at m5
   change (I5 xs).1.length=_ at m6
   change (I4 xs).1.length=_ at m7
   change (JY xs).1.length=_ at m8
   omega
theorem fOk_len {xs:List Int} (h:SG xs=true):xs.length=300:=by
 unfold SG at h
 simp only [Bool.and_eq_true,Zb,decide_eq_true_eq] at h
 exact h.1.1
theorem LA {xs:List Int} (h:xs.length≠300):SG xs=false:=by
 cases e:SG xs with
 | false=>rfl
 | true=>exact absurd (fOk_len e) h
theorem mK (xs:List Int) (h:xs.length=300):fH xs=xs.take 4∧fv xs=zD (xs.drop 4) false∧fb xs=zD (xs.drop 12) false∧Jb xs=(xs.drop 20).take 32∧fws xs=(xs.drop 52).take 80∧fi xs=zD (xs.drop 132) false∧H9 xs=(xs.drop 140).take 32∧Ia xs=(xs.drop 172).take 64∧Hw xs=(xs.drop 236).take 64:=by
 obtain ⟨e1,e2,e3,e4,e5,e6,e7,e8, -⟩:=mcs xs (by omega)
 have o (a n:Nat) (k:a+n≤300):jL (xs.drop a) false n=true:=iY.2 ⟨rfl,by omega,by rw [List.length_drop];omega⟩
 refine ⟨?_,by rw [fv,e1],by rw [fb,e2],?_,?_,by rw [fi,e5],?_,?_,?_⟩
 ·have:=o 0 4 (by omega)
  rw [List.drop_zero] at this
  unfold fH jl
  exact if_pos this
 ·unfold Jb ou
  rw [e3]
  exact if_pos (o 20 32 (by omega))
 ·unfold fws jl
  rw [e4]
  exact if_pos (o 52 80 (by omega))
 ·unfold H9 ou
  rw [e6]
  exact if_pos (o 140 32 (by omega))
 ·unfold Ia ou
  rw [e7]
  exact if_pos (o 172 64 (by omega))
 ·unfold Hw ou
  rw [e8]
  exact if_pos (o 236 64 (by omega))
theorem drop_at {α:Type} {A B xs:List α} {n:Nat} (h:A.length=n) (e:xs=A ++ B):xs.drop n=B:=by rw [e,List.drop_left' h]
theorem uq {v b i:Int} {ro ws ks gs:List Int} (h1:ro.length=32) (h2:ks.length=32) (h3:gs.length=64) (h5:ws.length=80):(dF v b ro ws i ks gs).length=236:=by
 rw [dF,List.length_append,List.length_append,fU,List.length_append,List.length_append,fU,h1,h2,h3,h5]
 rfl
theorem Ib {v b i:Int} {ro ws ks gs ss:List Int} (h1:ro.length=32) (h2:ks.length=32) (h3:gs.length=64) (h4:ss.length=64) (h5:ws.length=80) (hm:iJ v b 80 i=true) :
  SG (dF v b ro ws i ks gs ++ ss)=true∧fv (dF v b ro ws i ks gs ++ ss)=v∧fb (dF v b ro ws i ks gs ++ ss)=b∧Jb (dF v b ro ws i ks gs ++ ss)=ro∧fws (dF v b ro ws i ks gs ++ ss)=ws∧fi (dF v b ro ws i ks gs ++ ss)=i∧H9 (dF v b ro ws i ks gs ++ ss)=ks∧Ia (dF v b ro ws i ks gs ++ ss)=gs∧Hw (dF v b ro ws i ks gs ++ ss)=ss:=by
 have hn:(0≤v∧v≤2147483647)∧(1≤b∧b≤32)∧(0≤i∧i≤2147483647):=by simpa [iJ,xu,and_assoc] using hm
 have hl:(dF v b ro ws i ks gs ++ ss).length=300:=by rw [List.length_append,uq h1 h2 h3 h5,h4]
 have hx:dF v b ro ws i ks gs ++ ss=[80,67,77,49] ++ (jo v ++ (jo b ++ (ro ++ (ws ++ (jo i ++ (ks ++ (gs ++ ss))))))):=by
  simp [dF,iy]
 have hf:=mK _ hl
 have hE:fE (dF v b ro ws i ks gs ++ ss)=true:=by rw [Zb,hl];rfl
 unfold SG
 rw [hE]
 generalize dF v b ro ws i ks gs ++ ss=xs at hl hx hf ⊢
 have q:=gW
 have d4:xs.drop 4=jo v ++ (jo b ++ (ro ++ (ws ++ (jo i ++ (ks ++ (gs ++ ss)))))):=drop_at rfl hx
 have d12:xs.drop 12=jo b ++ (ro ++ (ws ++ (jo i ++ (ks ++ (gs ++ ss))))):=by
  rw [show xs.drop 12=(xs.drop 4).drop 8 by rw [List.drop_drop]];exact drop_at (q v) d4
 have d20:xs.drop 20=ro ++ (ws ++ (jo i ++ (ks ++ (gs ++ ss)))):=by
  rw [show xs.drop 20=(xs.drop 12).drop 8 by rw [List.drop_drop]];exact drop_at (q b) d12
 have d52:xs.drop 52=ws ++ (jo i ++ (ks ++ (gs ++ ss))):=by
  rw [show xs.drop 52=(xs.drop 20).drop 32 by rw [List.drop_drop]];exact drop_at h1 d20
 have d132:xs.drop 132=jo i ++ (ks ++ (gs ++ ss)):=by
  rw [show xs.drop 132=(xs.drop 52).drop 80 by rw [List.drop_drop]];exact drop_at h5 d52
 have d140:xs.drop 140=ks ++ (gs ++ ss):=by
  rw [show xs.drop 140=(xs.drop 132).drop 8 by rw [List.drop_drop]];exact drop_at (q i) d132
 have d172:xs.drop 172=gs ++ ss:=by
  rw [show xs.drop 172=(xs.drop 140).drop 32 by rw [List.drop_drop]];exact drop_at h2 d140
 have d236:xs.drop 236=ss:=by
  rw [show xs.drop 236=(xs.drop 172).drop 64 by rw [List.drop_drop]];exact drop_at h3 d172
 obtain ⟨f1,f2,f3,f4,f5,f6,f7,f8,f9⟩:=hf
 rw [d4,zC v hn.1.1 (by omega)] at f2
 rw [d12,zC b (by omega) (by omega)] at f3
 rw [d20,List.take_left' h1] at f4
 rw [d52,List.take_left' h5] at f5
 rw [d132,zC i hn.2.2.1 (by omega)] at f6
 rw [d140,List.take_left' h2] at f7
 rw [d172,List.take_left' h3] at f8
 rw [d236,List.take_of_length_le (Nat.le_of_eq h4)] at f9
 have t4:xs.take 4=[80,67,77,49]:=by rw [hx];exact List.take_left' rfl
 rw [t4] at f1
 refine ⟨?_,f2,f3,f4,f5,f6,f7,f8,f9⟩
 rw [f1,f2,f3,f5,f6,h5,hm]
 rfl
end Go.Proofs.YthdgbgleklkaiaaDoor.Mf
namespace Go.Proofs.YthdgbgleklkaiaaDoor.Mf
open Go.RowKit
theorem uX (e:Int) (w:World):Calls Tryd.prog 8 #[.int .i64 e] w fun r w'=>r = .returned (.int .i64 e)∧w=w':=by
 go_enter Tryd.func8, Tryd.ntmps8
 go_wp2_with fail
 all_goals (try simp only [Exit.then])
 go_ret
 exact ⟨rfl,rfl⟩
end Go.Proofs.YthdgbgleklkaiaaDoor.Mf
namespace Go.Proofs.YthdgbgleklkaiaaDoor.Mf
open Go.RowKit Go.ChangeShapes Go.WideShapes Lm Fp Cu Sl Sc Ce
section
variable {H:Type} {enc:TypeId×Value→H} {w:World} {base:Nat} {held:Bool} {r:Reach} {b0:Nat} {v:Value} {d:DataW H} {p:List MemPlace}
theorem parts9 {α:Type} {L:List α} {a b c e f g h i:List α} (hl:L.length=196) (h0:(L.drop 0).take 1=a) (h1:(L.drop 1).take 1=b) (h2:(L.drop 2).take 32=c) (h3:(L.drop 34).take 1=e) (h4:(L.drop 35).take 1=f) (h5:(L.drop 36).take 32=g) (h6:(L.drop 68).take 64=h) (h7:(L.drop 132).take 64=i) :
  L=a ++ (b ++ (c ++ (e ++ (f ++ (g ++ (h ++ i)))))):=by
 have s (x n:Nat):L.drop x=(L.drop x).take n ++ L.drop (x+n):=by rw [← List.drop_drop];exact (List.take_append_drop n _).symm
 have e7:L.drop 132=i:=by rw [← h7,List.take_of_length_le (by rw [List.length_drop,hl];decide)]
 have e6:=s 68 64
 have e5:=s 36 32
 have e4:=s 35 1
 have e3:=s 34 1
 have e2:=s 2 32
 have e1:=s 1 1
 have e0:=s 0 1
 rw [h6,e7] at e6
 rw [h5,e6] at e5
 rw [h4,e5] at e4
 rw [h3,e4] at e3
 rw [h2,e3] at e2
 rw [h1,e2] at e1
 rw [h0,e1] at e0
 exact e0
theorem UU (hv:Value.okWide Tryd.prog w r b0 30 v) (h:DataW.Trod enc Tryd.prog w base (fun _=>true) held 30 v d p) :
  ∃ (x b i:Int) (ro ks gs ss zs:List Int) (sw:Option Addr) (nw cw:Nat),v = .agg (aZ x b ro (.slice sw nw cw) i ks gs ss)∧BJ .u8 w sw nw cw zs∧(ro.length=32∧ks.length=32∧gs.length=64∧ss.length=64)∧(bytes ro∧bytes ks∧bytes gs∧bytes ss) ∧
   ((-9223372036854775808≤x∧x≤9223372036854775807)∧(-9223372036854775808≤b∧b≤9223372036854775807)∧(-9223372036854775808≤i∧i≤9223372036854775807)):=by
 obtain ⟨cs,rfl,hsz⟩:=okWide_struct Tryd.underlying30 hv
 obtain ⟨fuel,hf⟩:=h
 obtain ⟨hl,n,hx⟩:=flds Tryd.underlying30 hf
 obtain ⟨y0,h0⟩:=hx 0 3 0 1 (by kernel_rfl) (by kernel_rfl)
 obtain ⟨y1,h1⟩:=hx 1 3 1 1 (by kernel_rfl) (by kernel_rfl)
 obtain ⟨y2,h2⟩:=hx 2 23 2 32 (by kernel_rfl) (by kernel_rfl)
 obtain ⟨y3,h3⟩:=hx 3 24 34 1 (by kernel_rfl) (by kernel_rfl)
 obtain ⟨y4,h4⟩:=hx 4 28 35 97 (by kernel_rfl) (by kernel_rfl)
 obtain ⟨y5,h5⟩:=hx 5 26 132 64 (by kernel_rfl) (by kernel_rfl)
 obtain ⟨hl4,n4,hx4⟩:=flds Tryd.underlying28 h4
 obtain ⟨z0,g0⟩:=hx4 0 3 0 1 (by kernel_rfl) (by kernel_rfl)
 obtain ⟨z1,g1⟩:=hx4 1 23 1 32 (by kernel_rfl) (by kernel_rfl)
 obtain ⟨z2,g2⟩:=hx4 2 26 33 64 (by kernel_rfl) (by kernel_rfl)
 obtain ⟨x,e0,w0⟩:=EB Tryd.underlying3 h0
 obtain ⟨b,e1,w1⟩:=EB Tryd.underlying3 h1
 obtain ⟨ro,e2,l2,w2⟩:=xX Tryd.underlying23 Tryd.underlying5 (by kernel_rfl) (by kernel_rfl) h2
 obtain ⟨sw,nw,cw,zs,e3,w3⟩:=Y8 Tryd.underlying24 Tryd.underlying5 (by kernel_rfl) h3
 obtain ⟨i,f0,v0⟩:=EB Tryd.underlying3 g0
 obtain ⟨ks,f1,l1,v1⟩:=xX Tryd.underlying23 Tryd.underlying5 (by kernel_rfl) (by kernel_rfl) g1
 obtain ⟨gs,f2,k2,v2⟩:=xX Tryd.underlying26 Tryd.underlying5 (by kernel_rfl) (by kernel_rfl) g2
 obtain ⟨ss,e5,l5,w5⟩:=xX Tryd.underlying26 Tryd.underlying5 (by kernel_rfl) (by kernel_rfl) h5
 have hc:(Value.agg cs).cells.toList=cs.toList:=rfl
 rw [hc] at e0 e1 e2 e3 f0 f1 f2 e5 hl
 have hl:cs.toList.length=196:=hl.trans (by kernel_rfl)
 refine ⟨x,b,i,ro,ks,gs,ss,zs,sw,nw,cw,?_,w3,⟨l2,l1,k2,l5⟩,⟨fun x hx=>wf_u8 (w2 x hx),fun x hx=>wf_u8 (v1 x hx),fun x hx=>wf_u8 (v2 x hx),fun x hx=>wf_u8 (w5 x hx)⟩,wf_i64 w0,wf_i64 w1,wf_i64 v0⟩
 congr 1
 apply Array.ext'
 have tk (a b c d:Nat) (h:b+d≤c):(((cs.toList.drop a).take c).drop b).take d=(cs.toList.drop (a+b)).take d:=by
  rw [List.drop_take,List.drop_drop,List.take_take,Nat.min_eq_left (by omega)]
 rw [tk 35 0 97 1 (by decide)] at f0
 rw [tk 35 1 97 32 (by decide)] at f1
 rw [tk 35 33 97 64 (by decide)] at f2
 rw [bP,parts9 hl e0 e1 e2 e3 f0 f1 f2 e5]
 rfl
end
end Go.Proofs.YthdgbgleklkaiaaDoor.Mf
