/- manifest.num, signature: How a manifest's bytes are read, in plain words; Stops and certificates are compared. What reading a stop answers; A told region whose base is its own firs. Condition: as each theorem says. -/

import Derived.Test.YthdgbgleklkaiaaDoorQb04
import Derived.Test.YthdgbgleklkaiaaDoorQb27
import Derived.Test.YthdgbgleklkaiaaDoorQb30
import Derived.Test.YthdgbgleklkaiaaDoorQb31
open Go.Lib renaming hid→acD
open Array renaming ext'→acE,toList_setIfInBounds→acL,toList_extract→acS
open List renaming replicate→acF,take_of_length_le→acG,drop_of_length_le→acJ,length_take→acK,take_append→acM,drop_append→acN,getElem?_map→acO,set_cons_succ→acQ,set_append_right→acR
open Nat renaming lt_of_lt_of_le→acH,le_refl→acI,mod_eq_of_lt→acZ
open Int renaming toNat_natCast→acP
open BitVec renaming ofInt→acW,ofInt_natCast→acX,toNat_ofNat→acY
set_option linter.unusedSimpArgs false
set_option linter.unusedVariables false
set_option maxRecDepth 100000
set_option maxHeartbeats 16000000
namespace Go.Proofs.YthdgbgleklkaiaaDoor.Mf
open Go.RowKit Lm Fp Cu Sl Sc Ce
theorem _root_.Go.Proofs.YthdgbgleklkaiaaDoor.dQ.qlt {w:World} {p q:Nat} {zs:List Int} {bad:Bool} (h:dQ w p q zs bad) (hz:zs≠[]):q < w.heap.size:=by
 obtain ⟨⟨sa,c,h1,h2,h3,h4,h5⟩,h6,h7⟩:=h
 have hl:0 < zs.length:=List.length_pos_iff.2 hz
 obtain ⟨a,e,hc⟩:=h2.cell 0 hl
 rw [← h5 a e]
 exact World.block_lt_of_cell? _ _ hc
theorem _root_.Go.Proofs.YthdgbgleklkaiaaDoor.dQ.IE {T:Nat→Prop} {w w':World} {p q:Nat} {zs:List Int} {bad:Bool} (h:dQ w p q zs bad) (k:Kept T w w') (hp:¬ T p) (hq:zs≠[]→¬ T q):dQ w' p q zs bad:=by
 obtain ⟨⟨sa,c,h1,h2,h3,h4,h5⟩,h6,h7⟩:=h
 refine ⟨⟨sa,c,k.blk h1 hp,?_,h3,h4,h5⟩,h6,acH h7 k.size⟩
 by_cases hz:zs=[]
 ·subst hz
  exact ⟨rfl,fun i hi=>absurd hi (by simp)⟩
 ·exact h2.kept k (fun a e => .inr (by rw [h5 a e];exact hq hz))
def oP (zs:List Int) (bad:Bool) (n:Nat):List Int:=if jT zs bad n then zs.take n else acF n 0
theorem mR (zs:List Int) (bad:Bool) (n:Nat):(oP zs bad n).length=n:=by
 unfold oP
 split
 ·rename_i h
  obtain ⟨-, -, h2⟩:=je.1 h
  rw [acK]
  omega
 ·simp
theorem PV (zs:List Int) (bad:Bool) (n:Nat):(jy zs bad n).length≤n:=by
 unfold jy
 split
 ·rw [acK,acP]
  exact Nat.min_le_left _ _
 ·simp
theorem Ii (zs:List Int) (bad:Bool) (n:Nat):((arr .u8 (acF n 0)).toList.take 0 ++ (jy zs bad n).map (Value.int .u8) ++ (arr .u8 (acF n 0)).toList.drop (0+(jy zs bad n).length)).toArray=arr .u8 (oP zs bad n):=by
 unfold jy oP
 split
 ·rename_i h
  obtain ⟨-, -, h2⟩:=je.1 h
  have hl:(zs.take n).length=n:=by rw [acK];omega
  apply acE
  simp [arr,hl]
 ·apply acE
  simp [arr]
theorem PU (p q:Nat) (zs:List Int) (bad:Bool) (w:World) (h:dQ w p q zs bad) (hl:zs.length≤1099511627776) :
  Calls Tryd.prog 20 #[.pointer (some ⟨p,0,none⟩)] w fun e w'=>e = .returned (.agg (arr .u8 (oP zs bad 32)))∧dQ w' p q (oO zs bad 32) (!jT zs bad 32)∧Kept (· = p) w w':=by
 obtain ⟨zn,hzn⟩:∃ zs:List Int,zs=acF 32 0:=⟨_,rfl⟩
 have HZ:Hid (∀ w,(zeroValue 23).run Tryd.prog w = .ok (.agg (arr .u8 zn)) w):=acD (by intro w;rw [hzn];exact Sl.zero_num w)
 have Um:Hid (zn.length=32):=acD (by rw [hzn];rfl)
 have hb0:=((Below.refl _ w).alloc (acI _) (.cells (arr .u8 zn) 23)).alloc (by simp) (.cells (arr .u8 zn) 23)
 have Xx:=h.lt
 have HQ:=acD (fun hz=>h.qlt hz)
 have hr:=fun (u:World) (k:dQ u p q zs bad)=>qw p q zs bad 32 u k hl
 have hnl:(jy zs bad 32).length≤32:=PV zs bad 32
 have Qj:((arr .u8 zn).toList.take 0 ++ (jy zs bad 32).map (Value.int .u8) ++ (arr .u8 zn).toList.drop (0+(jy zs bad 32).length)).toArray=arr .u8 (oP zs bad 32):=by rw [hzn];exact Ii zs bad 32
 have hvl:=mR zs bad 32
 obtain ⟨R,hR⟩:∃ R,R=jy zs bad 32:=⟨_,rfl⟩
 rw [← hR] at hr hnl Qj
 generalize oP zs bad 32=N at Qj hvl ⊢
 have HI0:Hid (((w.alloc (.cells (arr .u8 zn) 23)).alloc (.cells (arr .u8 zn) 23)).heap[w.heap.size]? = some (.cells (arr .u8 zn) 23 (0,0))):=acD (aY (aG w _) _)
 have HI1:Hid (((w.alloc (.cells (arr .u8 zn) 23)).alloc (.cells (arr .u8 zn) 23)).heap[w.heap.size+1]? = some (.cells (arr .u8 zn) 23 (0,0))):=acD (by have:=aG (w.alloc (.cells (arr .u8 zn) 23)) (.cells (arr .u8 zn) 23);rwa [World.size_alloc] at this)
 have HC:=acD (h.below hb0)
 have HB0:=acD hb0
 have HP:=acD Xx
 have HR:=acD hr
 have yt:=acD hnl
 have HNV:=acD Qj
 have Ct:=acD hvl
 clear h hl hb0 Xx hr hnl Qj hvl hR hzn
 go_enter Tryd.func20, Tryd.ntmps20
 go_upto_region 2 with (first|((with_reducible refine aS 2 ?_);refine aj rfl 23 rfl _ (HZ.out _) ?_)|((with_reducible refine aS 3 ?_);refine aj rfl 23 rfl _ (HZ.out _) ?_))
 (try simp only [World.size_alloc,Act.put,sA,sZ,sS])
 generalize ((w.alloc (.cells (arr .u8 zn) 23)).alloc (.cells (arr .u8 zn) 23))=wb at HI0 HI1 HC HB0 ⊢
 refine wp_region_held_drew (S:=fun u=>True) (by kernel_rfl) (trivial) (fun hHeld=>?_)
 refine wpAnyH_take (i:=0) (oi:=(⟨some 4,_,_,_,_,none⟩:Oper)) (v := .slice (some ⟨w.heap.size+1,0,none⟩) 32 32) rfl (by kernel_rfl) (by kernel_rfl) (by kernel_rfl) (fun _ _ _ h=>h) (Or.inl ⟨by rfl,?hy101⟩) (by assumption) ?yA
 case hy101=>(intro u dD;(try dsimp only at dD);go_simp;try (with_reducible rfl))
 (try simp only [Act.put,sA,sZ,sS])
 refine wpAnyH_take (i:=1) (oi:=(⟨some 5,_,_,_,_,none⟩:Oper)) (v := .pointer (some ⟨p,0,none⟩)) rfl (by kernel_rfl) (by kernel_rfl) (by kernel_rfl) (fun _ _ _ h=>h) (Or.inl ⟨by rfl,?hy102⟩) (by assumption) ?PG
 case hy102=>(intro u dD;(try dsimp only at dD);go_simp;try (with_reducible rfl))
 (try simp only [Act.put,sA,sZ,sS])
 refine wpAnyH_ready (rs:=[2]) (by kernel_rfl) (by simp) ?_
 refine AllReadyH.cons (o:=(⟨some 6,_,_,_,_,none⟩:Oper)) rfl (fun K hK=>?_) AllReadyH.nil
 go_simp
 go_at_call 18
 refine (HR.out _ (HC.out.below (Below.refl _ wb).drew)).mono ?_
 rintro e w1 ⟨v1,rfl,ho,hc,hk⟩
 have yX:=acD hc
 obtain ⟨s1,c1,rfl, -, -, hs1, -⟩:=ho.form
 have iO:=acD hs1
 have uV:Hid (Kept (· = p) wb w1):=acD ((Kept.of_below (Below.refl _ wb).drew).trans hk)
 have HJ0:=acD (uV.out.blk HI0.out (by have:=HP.out;omega))
 have HJ1:=acD (uV.out.blk HI1.out (by have:=HP.out;omega))
 clear ho hc hk hs1
 refine hK.out _ _ (trivial) (fun hHeld=>?_)
 clear hK K
 (try simp only [Act.put,sA,sZ,sS])
 refine wpAnyH_ready (rs:=[3]) (by kernel_rfl) (by simp) ?_
 refine AllReadyH.cons (o:=(⟨some 7,_,_,_,_,none⟩:Oper)) rfl (fun K hK=>?_) AllReadyH.nil
 refine zF rfl (.tmp 4) (.tmp 6) rfl (w.heap.size+1) 0 32 32 R.length c1 s1 (arr .u8 zn) R 23 rfl rfl HJ1.out iO.out yt.out (by rw [aD,Um.out];have:=yt.out;omega) ?_
 intro w2 hb2 hk2
 rw [HNV.out] at hb2
 have nC:=acD hb2
 have Uq:=acD (hk2.blk HJ0.out (by omega))
 have Uq:=acD (hk2.blk HJ0.out (by omega))
 have yU:=acD hk2
 clear hb2 hk2
 refine hK.out _ _ (trivial) (fun hHeld=>?_)
 clear hK K
 (try simp only [Act.put,sA,sZ,sS])
 refine wpAnyH_done (by kernel_rfl) ?_ _
 (try simp only [Exit.then])
 clear hHeld
 go_wp2_with (first|((with_reducible refine aS 8 ?_);refine ak rfl 23 _ rfl (w.heap.size+1) 0 _ 23 (0,0) _ nC.out rfl .u8 N (au _ _) Tryd.underlying23 rfl (Sl.bU Ct.out) ?_)|((with_reducible refine aT 2 ?_);refine ah rfl 23 _ _ rfl (w.heap.size) _ _ 23 Uq.out rfl rfl (ay _ _ Ct.out Um.out) (Sl.bE Ct.out) (av _ _) ?_;intro w3 hb3 hk3 hz3;have HB3:=acD hb3;have JZ:=acD hk3;clear hb3 hk3 hz3))
 (try simp only [Exit.then])
 refine bodyPost_ret (results_cell_row rfl _ _ (w.heap.size) 23 _ (0,0) _ rfl HB3.out Tryd.underlying23 rfl (Sl.bE Ct.out)) rfl ?_
 have hk:Kept (· = p) w w3:=((((Kept.of_below HB0.out (T:=(· = p))).trans uV.out).cO yU.out (fun i hi e=>by have e:i=w.heap.size+1:=e;omega)).cO JZ.out (fun i hi e=>by have e:i=w.heap.size:=e;omega))
 have hx:∀ k,oO zs bad 32≠[]→k=w.heap.size∨k=w.heap.size+1→q≠k:=fun k hz hk e=>by
  have:=HQ.out (fun e2=>hz (by rw [e2,oO];split <;> simp))
  omega
 exact ⟨rfl,(yX.out.IE yU.out (by have:=HP.out;omega) (fun hz e=>hx _ hz (.inr rfl) e)).IE JZ.out (by have:=HP.out;omega) (fun hz e=>hx _ hz (.inl rfl) e),hk⟩
theorem O8 (p q:Nat) (zs:List Int) (bad:Bool) (w:World) (h:dQ w p q zs bad) (hl:zs.length≤1099511627776) :
  Calls Tryd.prog 21 #[.pointer (some ⟨p,0,none⟩)] w fun e w'=>e = .returned (.agg (arr .u8 (oP zs bad 64)))∧dQ w' p q (oO zs bad 64) (!jT zs bad 64)∧Kept (· = p) w w':=by
 obtain ⟨zn,hzn⟩:∃ zs:List Int,zs=acF 64 0:=⟨_,rfl⟩
 have HZ:Hid (∀ w,(zeroValue 26).run Tryd.prog w = .ok (.agg (arr .u8 zn)) w):=acD (by intro w;rw [hzn];exact Sl.tT w)
 have Um:Hid (zn.length=64):=acD (by rw [hzn];rfl)
 have hb0:=((Below.refl _ w).alloc (acI _) (.cells (arr .u8 zn) 26)).alloc (by simp) (.cells (arr .u8 zn) 26)
 have Xx:=h.lt
 have HQ:=acD (fun hz=>h.qlt hz)
 have hr:=fun (u:World) (k:dQ u p q zs bad)=>qw p q zs bad 64 u k hl
 have hnl:(jy zs bad 64).length≤64:=PV zs bad 64
 have Qj:((arr .u8 zn).toList.take 0 ++ (jy zs bad 64).map (Value.int .u8) ++ (arr .u8 zn).toList.drop (0+(jy zs bad 64).length)).toArray=arr .u8 (oP zs bad 64):=by rw [hzn];exact Ii zs bad 64
 have hvl:=mR zs bad 64
 obtain ⟨R,hR⟩:∃ R,R=jy zs bad 64:=⟨_,rfl⟩
 rw [← hR] at hr hnl Qj
 generalize oP zs bad 64=N at Qj hvl ⊢
 have HI0:Hid (((w.alloc (.cells (arr .u8 zn) 26)).alloc (.cells (arr .u8 zn) 26)).heap[w.heap.size]? = some (.cells (arr .u8 zn) 26 (0,0))):=acD (aY (aG w _) _)
 have HI1:Hid (((w.alloc (.cells (arr .u8 zn) 26)).alloc (.cells (arr .u8 zn) 26)).heap[w.heap.size+1]? = some (.cells (arr .u8 zn) 26 (0,0))):=acD (by have:=aG (w.alloc (.cells (arr .u8 zn) 26)) (.cells (arr .u8 zn) 26);rwa [World.size_alloc] at this)
 have HC:=acD (h.below hb0)
 have HB0:=acD hb0
 have HP:=acD Xx
 have HR:=acD hr
 have yt:=acD hnl
 have HNV:=acD Qj
 have Ct:=acD hvl
 clear h hl hb0 Xx hr hnl Qj hvl hR hzn
 go_enter Tryd.func21, Tryd.ntmps21
 go_upto_region 2 with (first|((with_reducible refine aS 2 ?_);refine aj rfl 26 rfl _ (HZ.out _) ?_)|((with_reducible refine aS 3 ?_);refine aj rfl 26 rfl _ (HZ.out _) ?_))
 (try simp only [World.size_alloc,Act.put,sA,sZ,sS])
 generalize ((w.alloc (.cells (arr .u8 zn) 26)).alloc (.cells (arr .u8 zn) 26))=wb at HI0 HI1 HC HB0 ⊢
 refine wp_region_held_drew (S:=fun u=>True) (by kernel_rfl) (trivial) (fun hHeld=>?_)
 refine wpAnyH_take (i:=0) (oi:=(⟨some 4,_,_,_,_,none⟩:Oper)) (v := .slice (some ⟨w.heap.size+1,0,none⟩) 64 64) rfl (by kernel_rfl) (by kernel_rfl) (by kernel_rfl) (fun _ _ _ h=>h) (Or.inl ⟨by rfl,?IK⟩) (by assumption) ?PE
 case IK=>(intro u dD;(try dsimp only at dD);go_simp;try (with_reducible rfl))
 (try simp only [Act.put,sA,sZ,sS])
 refine wpAnyH_take (i:=1) (oi:=(⟨some 5,_,_,_,_,none⟩:Oper)) (v := .pointer (some ⟨p,0,none⟩)) rfl (by kernel_rfl) (by kernel_rfl) (by kernel_rfl) (fun _ _ _ h=>h) (Or.inl ⟨by rfl,?hy104⟩) (by assumption) ?PD
 case hy104=>(intro u dD;(try dsimp only at dD);go_simp;try (with_reducible rfl))
 (try simp only [Act.put,sA,sZ,sS])
 refine wpAnyH_ready (rs:=[2]) (by kernel_rfl) (by simp) ?_
 refine AllReadyH.cons (o:=(⟨some 6,_,_,_,_,none⟩:Oper)) rfl (fun K hK=>?_) AllReadyH.nil
 go_simp
 go_at_call 18
 refine (HR.out _ (HC.out.below (Below.refl _ wb).drew)).mono ?_
 rintro e w1 ⟨v1,rfl,ho,hc,hk⟩
 have yX:=acD hc
 obtain ⟨s1,c1,rfl, -, -, hs1, -⟩:=ho.form
 have iO:=acD hs1
 have uV:Hid (Kept (· = p) wb w1):=acD ((Kept.of_below (Below.refl _ wb).drew).trans hk)
 have HJ0:=acD (uV.out.blk HI0.out (by have:=HP.out;omega))
 have HJ1:=acD (uV.out.blk HI1.out (by have:=HP.out;omega))
 clear ho hc hk hs1
 refine hK.out _ _ (trivial) (fun hHeld=>?_)
 clear hK K
 (try simp only [Act.put,sA,sZ,sS])
 refine wpAnyH_ready (rs:=[3]) (by kernel_rfl) (by simp) ?_
 refine AllReadyH.cons (o:=(⟨some 7,_,_,_,_,none⟩:Oper)) rfl (fun K hK=>?_) AllReadyH.nil
 refine zF rfl (.tmp 4) (.tmp 6) rfl (w.heap.size+1) 0 64 64 R.length c1 s1 (arr .u8 zn) R 26 rfl rfl HJ1.out iO.out yt.out (by rw [aD,Um.out];have:=yt.out;omega) ?_
 intro w2 hb2 hk2
 rw [HNV.out] at hb2
 have nC:=acD hb2
 have Uq:=acD (hk2.blk HJ0.out (by omega))
 have Uq:=acD (hk2.blk HJ0.out (by omega))
 have yU:=acD hk2
 clear hb2 hk2
 refine hK.out _ _ (trivial) (fun hHeld=>?_)
 clear hK K
 (try simp only [Act.put,sA,sZ,sS])
 refine wpAnyH_done (by kernel_rfl) ?_ _
 (try simp only [Exit.then])
 clear hHeld
 go_wp2_with (first|((with_reducible refine aS 8 ?_);refine ak rfl 26 _ rfl (w.heap.size+1) 0 _ 26 (0,0) _ nC.out rfl .u8 N (au _ _) Tryd.underlying26 rfl (Sl.sig_i Ct.out) ?_)|((with_reducible refine aT 2 ?_);refine ah rfl 26 _ _ rfl (w.heap.size) _ _ 26 Uq.out rfl rfl (ay _ _ Ct.out Um.out) (Sl.lD Ct.out) (av _ _) ?_;intro w3 hb3 hk3 hz3;have HB3:=acD hb3;have JZ:=acD hk3;clear hb3 hk3 hz3))
 (try simp only [Exit.then])
 refine bodyPost_ret (results_cell_row rfl _ _ (w.heap.size) 26 _ (0,0) _ rfl HB3.out Tryd.underlying26 rfl (Sl.lD Ct.out)) rfl ?_
 have hk:Kept (· = p) w w3:=((((Kept.of_below HB0.out (T:=(· = p))).trans uV.out).cO yU.out (fun i hi e=>by have e:i=w.heap.size+1:=e;omega)).cO JZ.out (fun i hi e=>by have e:i=w.heap.size:=e;omega))
 have hx:∀ k,oO zs bad 64≠[]→k=w.heap.size∨k=w.heap.size+1→q≠k:=fun k hz hk e=>by
  have:=HQ.out (fun e2=>hz (by rw [e2,oO];split <;> simp))
  omega
 exact ⟨rfl,(yX.out.IE yU.out (by have:=HP.out;omega) (fun hz e=>hx _ hz (.inr rfl) e)).IE JZ.out (by have:=HP.out;omega) (fun hz e=>hx _ hz (.inl rfl) e),hk⟩
end Go.Proofs.YthdgbgleklkaiaaDoor.Mf
namespace Go.Proofs.YthdgbgleklkaiaaDoor.Mf
open Go.RowKit Lm Fp Cu Sl Sc Ce
section
variable {v b i:Int} {ro ks gs ss:List Int} {wv:Value}
theorem qN (x:Int):(aZ v b ro wv i ks gs ss).setIfInBounds 1 (.int .i64 x)=aZ v x ro wv i ks gs ss:=by
 apply acE
 rw [acL,bP,bP]
 rfl
theorem lH (h1:ro.length=32) (x:Value):(aZ v b ro wv i ks gs ss).setIfInBounds 34 x=aZ v b ro x i ks gs ss:=by
 apply acE
 rw [acL,bP,bP]
 simp only [acQ]
 rw [acR _ _ (by simp [h1])]
 simp [h1]
theorem nU (h1:ro.length=32) (x:Int):(aZ v b ro wv i ks gs ss).setIfInBounds 35 (.int .i64 x)=aZ v b ro wv x ks gs ss:=by
 apply acE
 rw [acL,bP,bP]
 simp only [acQ]
 rw [acR _ _ (by simp [h1])]
 simp [h1]
theorem Sz {r2:List Int} (h1:ro.length=32) (h2:r2.length=32):((aZ v b ro wv i ks gs ss).toList.take 2 ++ (arr .u8 r2).toList ++ (aZ v b ro wv i ks gs ss).toList.drop (2+(arr .u8 r2).size)).toArray=aZ v b r2 wv i ks gs ss:=by
 apply acE
 simp only [bP,bN,aD,h2]
 simp [h1]
theorem KR {k2:List Int} (h1:ro.length=32) (h2:ks.length=32) (h3:k2.length=32):((aZ v b ro wv i ks gs ss).toList.take 36 ++ (arr .u8 k2).toList ++ (aZ v b ro wv i ks gs ss).toList.drop (36+(arr .u8 k2).size)).toArray=aZ v b ro wv i k2 gs ss:=by
 apply acE
 simp only [bP,bN,aD,h3]
 simp [h1,h2,acM,acN,acG,acJ]
theorem KQ {g2:List Int} (h1:ro.length=32) (h2:ks.length=32) (h3:gs.length=64) (h4:g2.length=64):((aZ v b ro wv i ks gs ss).toList.take 68 ++ (arr .u8 g2).toList ++ (aZ v b ro wv i ks gs ss).toList.drop (68+(arr .u8 g2).size)).toArray=aZ v b ro wv i ks g2 ss:=by
 apply acE
 simp only [bP,bN,aD,h4]
 simp [h1,h2,h3,acM,acN,acG,acJ]
theorem xA {s2:List Int} (h1:ro.length=32) (h2:ks.length=32) (h3:gs.length=64) (h4:ss.length=64) (h5:s2.length=64):((aZ v b ro wv i ks gs ss).toList.take 132 ++ (arr .u8 s2).toList ++ (aZ v b ro wv i ks gs ss).toList.drop (132+(arr .u8 s2).size)).toArray=aZ v b ro wv i ks gs s2:=by
 apply acE
 simp only [bP,bN,aD,h5]
 simp [h1,h2,h3,h4,acM,acN,acG,acJ]
theorem jo (hw:wv.oneCell'=true):(aZ v b ro wv i ks gs ss).all (·.oneCell')=true:=by
 rw [Array.all_eq_true_iff_forall_mem]
 intro x hx
 rw [← Array.mem_toList_iff,bP] at hx
 simp only [List.mem_cons,List.mem_append,List.mem_map] at hx
 rcases hx with rfl|rfl|⟨y, -, rfl⟩|rfl|rfl|⟨y, -, rfl⟩|⟨y, -, rfl⟩|⟨y, -, rfl⟩
 all_goals first|rfl|exact hw
end
def z32:List Int:=acF 32 0
def z64:List Int:=acF 64 0
def iI:Array Value:=aZ 0 0 z32 (.slice none 0 0) 0 z32 z64 z64
theorem mI (w:World):(zeroValue 30).run Tryd.prog w = .ok (.agg iI) w:=by kernel_rfl
theorem Ba (w:World):(Instr.build 30 #[]).run Tryd.prog w = .ok (.agg iI) w:=by kernel_rfl
theorem Ng (v:Int) (w:World):(Instr.build 30 #[(0, .int .i64 v)]).run Tryd.prog w = .ok (.agg (aZ v 0 z32 (.slice none 0 0) 0 z32 z64 z64)) w:=by kernel_rfl
theorem eD:(Tryd.prog.info? 30).map (·.size)=some 196:=by kernel_rfl
def st (n:Int) (c:List Int×Bool):List Int×Bool:=(oO c.1 c.2 n, !jT c.1 c.2 n)
def Ir (xs:List Int):=st 4 (xs,false)
def oQ (xs:List Int):=st 8 (Ir xs)
def JQ (xs:List Int):=st 8 (oQ xs)
def JO (xs:List Int):=st 32 (JQ xs)
def JN (xs:List Int):=st 80 (JO xs)
def JM (xs:List Int):=st 8 (JN xs)
def JL (xs:List Int):=st 32 (JM xs)
def KN (xs:List Int):=st 64 (JL xs)
def mc9 (xs:List Int):=st 64 (KN xs)
def fH (xs:List Int):List Int:=jy xs false 4
def fv (xs:List Int):Int:=Ak (Ir xs).1 (Ir xs).2
def fb (xs:List Int):Int:=Ak (oQ xs).1 (oQ xs).2
def JU (xs:List Int):List Int:=oP (JQ xs).1 (JQ xs).2 32
def fws (xs:List Int):List Int:=jy (JO xs).1 (JO xs).2 80
def fi (xs:List Int):Int:=Ak (JN xs).1 (JN xs).2
def Jb (xs:List Int):List Int:=oP (JM xs).1 (JM xs).2 32
def Jc (xs:List Int):List Int:=oP (JL xs).1 (JL xs).2 64
def I6 (xs:List Int):List Int:=oP (KN xs).1 (KN xs).2 64
def fE (xs:List Int):Bool := !(mc9 xs).2 && decide ((mc9 xs).1.length=0)
def Uv (xs:List Int):Bool:=fE xs && decide (fH xs=[80,67,77,49]) && gq (fv xs) (fb xs) (fws xs).length (fi xs)
theorem nK (n:Int) (c:List Int×Bool):(st n c).1.length≤c.1.length:=raw_len _ _ _
theorem st_ne {n:Int} {c:List Int×Bool} (h:(st n c).1≠[]):c.1≠[]:=fun e=>h (by
 have h1:=nK n c
 rw [e] at h1
 exact List.eq_nil_of_length_eq_zero (by simpa using h1))
theorem mc_len (xs:List Int):(Ir xs).1.length≤xs.length∧(oQ xs).1.length≤xs.length∧(JQ xs).1.length≤xs.length∧(JO xs).1.length≤xs.length∧(JN xs).1.length≤xs.length∧(JM xs).1.length≤xs.length∧(JL xs).1.length≤xs.length∧(KN xs).1.length≤xs.length:=by
 have h1:(Ir xs).1.length≤xs.length:=nK 4 (xs,false)
 have h2:(oQ xs).1.length≤_:=nK 8 (Ir xs)
 have h3:(JQ xs).1.length≤_:=nK 8 (oQ xs)
 have h4:(JO xs).1.length≤_:=nK 32 (JQ xs)
 have h5:(JN xs).1.length≤_:=nK 80 (JO xs)
 have h6:(JM xs).1.length≤_:=nK 8 (JN xs)
 have h7:(JL xs).1.length≤_:=nK 32 (JM xs)
 have h8:(KN xs).1.length≤_:=nK 64 (JL xs)
 omega
theorem str_cm:strOfNums [80,67,77,49]=⟨#[80,67,77,49]⟩:=by rfl
theorem cm_list:(⟨#[80,67,77,49]⟩:ByteArray).toList=[80,67,77,49]:=by decide +kernel
structure ny (w u:World) (xs:List Int) (g6:Nat) (M:Array Value) (c:List Int×Bool) (p q:Nat):Prop where
 i:u.heap[w.heap.size]? = some (.cells iI 30 (0,0))
 m:u.heap[g6]? = some (.cells M 30 (0,0))
 cu:dQ u p q c.1 c.2
 n1:w.heap.size≠p
 n2:g6≠p
 n3:w.heap.size < g6
 n4:w.heap.size≤p
 nq:xs≠[]→q≠g6
 le:c.1≠[]→xs≠[]
 b:Below w.heap.size w u
theorem ny.turn {w u u':World} {xs:List Int} {g6 p q:Nat} {M:Array Value} {c:List Int×Bool} {n:Int} (h:ny w u xs g6 M c p q) (k:Kept (· = p) u u') (hc:dQ u' p q (st n c).1 (st n c).2):ny w u' xs g6 M (st n c) p q :=
 ⟨k.blk h.i h.n1,k.blk h.m h.n2,hc,h.n1,h.n2,h.n3,h.n4,h.nq,fun e=>h.le (st_ne e),h.b.trans ⟨k.os,k.tape,k.output,k.size,fun j hj=>k.block j (acH hj h.b.size) (by have:=h.n4;omega)⟩⟩
theorem ny.put {w u u':World} {xs:List Int} {g6 p q:Nat} {M M':Array Value} {c:List Int×Bool} (h:ny w u xs g6 M c p q) (k:Kept (fun x=>x=g6) u u') (hm:u'.heap[g6]? = some (.cells M' 30 (0,0))):ny w u' xs g6 M' c p q :=
 ⟨k.blk h.i (by have:=h.n3;omega),hm,h.cu.IE k (fun e=>h.n2 e.symm) (fun hz e=>h.nq (h.le hz) e),h.n1,h.n2,h.n3,h.n4,h.nq,h.le,h.b.trans ⟨k.os,k.tape,k.output,k.size,fun j hj=>k.block j (acH hj h.b.size) (by have:=h.n3;omega)⟩⟩
theorem ny.set {w u:World} {xs:List Int} {g6 p q:Nat} {M:Array Value} {c:List Int×Bool} (h:ny w u xs g6 M c p q) (o:Nat) (x:Value):ny w (u.setCell ⟨g6,o,none⟩ x) xs g6 (M.setIfInBounds o x) c p q :=
 h.put ((Kept.refl _ u).at o x) (bq h.m x)
theorem ny.fresh {w u u':World} {xs:List Int} {g6 p q:Nat} {M:Array Value} {c:List Int×Bool} (h:ny w u xs g6 M c p q) (k:Below u.heap.size u u'):ny w u' xs g6 M c p q :=
 ⟨Below.blk k h.i (aO h.i),Below.blk k h.m (aO h.m),h.cu.below k,h.n1,h.n2,h.n3,h.n4,h.nq,h.le,h.b.trans (k.mono h.b.size)⟩
end Go.Proofs.YthdgbgleklkaiaaDoor.Mf
namespace Go.Proofs.YthdgbgleklkaiaaDoor.Ce
open Go.RowKit Lm Fp Cu Sl Sc
theorem Wh (t:TypeId) (d:TypeDesc) (hu : Tryd.prog.underlying t=some d) (hd:Nq d=false) (cs:Array Value) (off:Nat) (v:Value) (h:cs[off]? = some v) (w:World):(part t cs off).run Tryd.prog w = .ok v w:=by
 have ha:(isAgg t).run Tryd.prog w = .ok false w:=by
  unfold isAgg
  simp only [Sem.run_bind,run_underlying hu,Result.andThen_ok]
  cases d <;> simp_all [Nq]
 simp [part,ha,h]
theorem Ig (t:TypeId) (n:Nat) (hu:∃ d, Tryd.prog.underlying t=some d∧Nq d=true) (hs:∀ w,(sizeOf t).run Tryd.prog w = .ok n w) (cs:Array Value) (off:Nat) (w:World):(part t cs off).run Tryd.prog w = .ok (.agg (cs.extract off (off+n))) w:=by
 obtain ⟨d,hu,hd⟩:=hu
 have ha:(isAgg t).run Tryd.prog w = .ok true w:=by
  unfold isAgg
  simp only [Sem.run_bind,run_underlying hu,Result.andThen_ok]
  cases d <;> simp_all [Nq]
 simp [part,ha,hs]
theorem TI (id:Int) (ks gs:List Int) (hk:ks.length=32):(dn id ks gs).extract 1 (1+32)=arr .u8 ks:=by
 apply acE
 simp [dn,arr,acS,List.extract,hk,acG]
theorem TH (id:Int) (ks gs:List Int) (hk:ks.length=32) (h:gs.length=64):(dn id ks gs).extract 33 (33+64)=arr .u8 gs:=by
 apply acE
 simp [dn,arr,acS,List.extract,hk,h,acG,acJ]
theorem eq_cert (id:Int) (ks gs:List Int) (hk:ks.length=32) (h:gs.length=64) (w:World):(Op.equalIn 10000 28 (.agg (dn id ks gs)) (.agg (dn id ks gs))).run Tryd.prog w = .ok true w:=by
 rw [run_equalIn_struct w 9999 28 _ _ Tryd.underlying28 (by kernel_rfl)]
 have hf:(Tryd.prog.fieldsOf 28).toList.map (fun f=>(f.name == "_", f.type,f.offset))=[(false, 3, 0),(false, 23, 1),(false, 26, 33)]:=by kernel_rfl
 generalize (Tryd.prog.fieldsOf 28).toList=fs at hf ⊢
 obtain ⟨f0,r0,rfl,h0,hr⟩:=List.map_eq_cons_iff.1 hf
 obtain ⟨f1,r1,rfl,h1,hr⟩:=List.map_eq_cons_iff.1 hr
 obtain ⟨f2,r2,rfl,h2,hr⟩:=List.map_eq_cons_iff.1 hr
 obtain rfl:=List.map_eq_nil_iff.1 hr
 simp only [Prod.mk.injEq,beq_eq_false_iff_ne] at h0 h1 h2
 obtain ⟨a1,a2,a3⟩:=h0
 obtain ⟨b1,b2,b3⟩:=h1
 obtain ⟨c1,c2,c3⟩:=h2
 have p0:=fun w=>Wh 3 _ Tryd.underlying3 rfl (dn id ks gs) 0 _ (abJ id ks gs) w
 have p1:=fun w=>Ig 23 32 ⟨_, Tryd.underlying23, rfl⟩ (fun w=>by kernel_rfl) (dn id ks gs) 1 w
 rw [TI id ks gs hk] at p1
 have p2:=fun w=>Ig 26 64 ⟨_, Tryd.underlying26, rfl⟩ (fun w=>by kernel_rfl) (dn id ks gs) 33 w
 rw [TH id ks gs hk h] at p2
 have e1:=fun w=>fO w 9997 23 5 32 .u8 .u8 Tryd.underlying23 Tryd.underlying5 (fun w=>by kernel_rfl) ks ks hk hk
 have e2:=fun w=>fO w 9997 26 5 64 .u8 .u8 Tryd.underlying26 Tryd.underlying5 (fun w=>by kernel_rfl) gs gs h h
 have e0:=fun w=>run_equalIn_int w 9998 3 .i64 _ id id Tryd.underlying3
 simp [Op.eqFields,p0,p1,p2,e0,e1,e2,a1,a2,a3,b1,b2,b3,c1,c2,c3]
theorem aaY {o:Oper} {ρ:Operand→Value} {t ty:TypeId} {x y:Operand} {cs:Array Value} (ho:o.op = .binOp .eql t x y ty) (hm : Tryd.prog.eqGuardType Tryd.prog.depth t=false) (hx:ρ x = .agg cs) (hy:ρ y = .agg cs) (he:∀ w,(Op.equalIn 10000 t (.agg cs) (.agg cs)).run Tryd.prog w = .ok true w) (w:World):(execOp ρ o).run Tryd.prog w = .ok (.value (.bool true)) w:=by
 simp only [execOp,ho,hx,hy,Sem.run_bind,run_eqGuard_agg w .eql t x y _ _ hm,Result.andThen_ok,run_eql_struct,he]
 rfl
theorem qV {o:Oper} {ρ:Operand→Value} {t ty:TypeId} {x y:Operand} {cs:Array Value} (ho:o.op = .binOp .eql t x y ty) (hm : Tryd.prog.eqGuardType Tryd.prog.depth t=false) (e:[x,y].map ρ=[.agg cs, .agg cs]) (he:∀ w,(Op.equalIn 10000 t (.agg cs) (.agg cs)).run Tryd.prog w = .ok true w) (w:World):(execOp ρ o).run Tryd.prog w = .ok (.value (.bool true)) w:=by
 simp only [List.map_cons,List.map_nil,List.cons.injEq,and_true] at e
 exact aaY ho hm e.1 e.2 he w
theorem eg_cert : Tryd.prog.eqGuardType Tryd.prog.depth 28 = false:=by kernel_rfl
end Go.Proofs.YthdgbgleklkaiaaDoor.Ce
namespace Go.Proofs.YthdgbgleklkaiaaDoor.Ce
open Go.RowKit Go.ChangeShapes Go.WideShapes Lm Fp Cu Sl Sc
theorem eX {P:Program} {ops:Array Oper} {rest:List Oper} {o:Oper} {a:Act} {w:World} {Q:Exit→Act→World→Prop} (hgd:Region.wanted o (yielded ops a.tmps)=true) (ty:TypeId) (x:Operand) (ho:o.op = .load ty x)
  (g:Nat) (hx:a.eval x = .pointer (some ⟨g,0,none⟩)) (t:TypeId) (cs:Array Value) (fr:Nat×Nat) (d:TypeDesc) (hg:w.heap[g]? = some (.cells cs t fr))
  (hu:P.underlying ty=some d) (hd:(match d with | .struct _ | .array _ _=>true|_=>false)=true) (hi:(P.info? ty).map (·.size)=some cs.size)
  (h:wpList P ops Q rest (a.put o.dst (.agg cs)) w):wpList P ops Q (o :: rest) a w:=by
 unfold wpList
 rw [if_pos hgd]
 exact .inl (wp_load_row ty x ho g hx t cs fr d hg hu hd hi h)
theorem G7 {P:Program} {ops:Array Oper} {rest:List Oper} {o:Oper} {a:Act} {w:World} {Q:Exit→Act→World→Prop} (hgd:Region.wanted o (yielded ops a.tmps)=true) (v:Value) (hrun:(execOp a.eval o).run P w = .ok (.value v) w) (h:wpList P ops Q rest (a.put o.dst v) w):wpList P ops Q (o :: rest) a w:=by
 unfold wpList
 rw [if_pos hgd]
 left
 unfold Oper.wp
 rw [hrun]
 exact h
theorem _root_.Go.Proofs.YthdgbgleklkaiaaDoor.bM.holdsT {w u:World} {L:List (Nat×Array Value×TypeId)} (h:bM w u L):Holds (fun g=>∃ e∈L,e.1=g) u u fun κ=>(Dx L)[κ]? := by
 have h0:=h.holds
 refine ⟨fun i g p hi=>⟨(h0.mem i g p hi).1, .inl ?_⟩,h0.inj,Kept.refl _ _⟩
 have hi:(Dx L)[i]? = some (g,p):=hi
 simp only [Dx,acO,Option.map_eq_some_iff,Prod.mk.injEq] at hi
 obtain ⟨x,h1,h2, -⟩:=hi
 exact ⟨x,List.mem_of_getElem? h1,h2⟩
theorem _root_.Go.Proofs.YthdgbgleklkaiaaDoor.bM.Nk {w u u':World} {L:List (Nat×Array Value×TypeId)} (h:bM w u L) (k:Kept (fun g=>∃ e∈L,e.1=g) u u'):Below w.heap.size w u' :=
 h.below.trans ⟨k.os,k.tape,k.output,k.size,fun i hi=>k.block i (acH hi h.below.size) (by
  rintro ⟨e,he,rfl⟩
  obtain ⟨j,hj,e2⟩:=List.getElem_of_mem he
  have:=h.low j (g:=e.1) (c:=e.2.1) (t:=e.2.2) (by rw [List.getElem?_eq_getElem hj,e2])
  omega)⟩
theorem RS {w:World} {a:Option Addr} {len cap:Nat} {zs:List Int} (h:Jw .u8 w a len cap zs):Src w a len (zs.take len)∧bytes (zs.take len)∧len≤cap:=by
 rcases h with ⟨rfl,rfl,rfl,rfl⟩|⟨x,rfl,hl,hm,hz,hc,hw⟩
 ·exact ⟨⟨rfl,fun i hi=>absurd hi (by omega)⟩,fun x hx=>by simp at hx,acI _⟩
 ·refine ⟨⟨by simp;omega,fun i hi=>⟨x,rfl,?_⟩⟩,fun y hy=>wf_u8 (hw y (List.mem_of_mem_take hy)),hl⟩
  rw [hc i (by omega)]
  simp [List.getD,hi]
end Go.Proofs.YthdgbgleklkaiaaDoor.Ce
namespace Go.Proofs.YthdgbgleklkaiaaDoor
open Go.RowKit
theorem Holds.blkT {w u u':World} {L0:List (Nat×Array Value×TypeId)} {M:Nat→Option (Nat×OP)} (hb:bM w u L0) (h:Holds (fun g=>∃ e∈L0,e.1=g) u u' M) (ks:List Nat) (l:List (Nat×Array Value×TypeId)) (hd:ks.Nodup) (hl:ks.map M=l.map fun e=>some (e.1,Cr e.2.1 e.2.2)):bM w u' l:=by
 have hlen:ks.length=l.length:=by have:=congrArg List.length hl;simpa using this
 have hx:∀ (i g:Nat) (c:Array Value) (t:TypeId),l[i]? = some (g,c,t)→∃ κ,ks[i]? = some κ∧M κ=some (g,Cr c t):=by
  intro i g c t hi
  have h1:(ks.map M)[i]? = some (some (g,Cr c t)):=by rw [hl,acO,hi];rfl
  rw [acO] at h1
  obtain ⟨κ,h2,h3⟩:=Option.map_eq_some_iff.1 h1
  exact ⟨κ,h2,h3⟩
 refine ⟨fun i g c t hi=>?_,fun i j g c t c' t' hi hj=>?_,hb.Nk h.keep⟩
 ·obtain ⟨κ,_,h2⟩:=hx i g c t hi
  obtain ⟨⟨o,ho,rfl⟩,hT⟩:=h.mem κ g _ h2
  refine ⟨ho,?_⟩
  rcases hT with ⟨⟨g',c',t'⟩,he,rfl⟩|hT
  ·obtain ⟨k,hk⟩:=List.mem_iff_getElem?.1 he
   exact hb.low k hk
  ·exact Nat.le_trans hb.below.size hT
 ·obtain ⟨κ,h1,h2⟩:=hx i g c t hi
  obtain ⟨κ',h3,h4⟩:=hx j g c' t' hj
  have e:=h.inj κ κ' g _ _ h2 h4
  subst e
  obtain ⟨i1,i2⟩:=List.getElem?_eq_some_iff.1 h1
  obtain ⟨j1,j2⟩:=List.getElem?_eq_some_iff.1 h3
  exact (List.getElem_inj (h₀:=i1) (h₁:=j1) hd).1 (i2.trans j2.symm)
end Go.Proofs.YthdgbgleklkaiaaDoor
namespace Go.Proofs.YthdgbgleklkaiaaDoor.Ce
open Go.RowKit Lm Fp Cu Sl Sc
theorem Wn (u x:Nat) (hu:u < 2 ^ 56) (hx:x < 256):bits .or .u64 (IntKind.u64.wrap ((u:Int) * 256)) (IntKind.u64.wrap (x:Int))=((u * 256+x:Nat):Int):=by
 have e1:IntKind.u64.wrap ((u:Int) * 256)=((u * 256:Nat):Int):=by rw [IntKind.wrap_u64];omega
 have e2:IntKind.u64.wrap (x:Int)=(x:Int):=by rw [IntKind.wrap_u64];omega
 rw [e1,e2]
 show IntKind.u64.wrap ((acW 64 ((u * 256:Nat):Int) ||| acW 64 (x:Int)).toNat:Int)=_
 have hy:x < 2 ^ 8:=hx
 rw [acX,acX,BitVec.toNat_or,acY,acY,acZ (by omega),acZ (by omega),show u * 256=2 ^ 8 * u by omega,← Nat.two_pow_add_eq_or_of_lt hy,IntKind.wrap_u64]
 omega
theorem Jr (ys:List Int) (hb:bytes ys):∀ j,j≤ys.length→j≤8→∃ u:Nat,CY (ys.take j)=(u:Int)∧u < 256 ^ j∧∀ k,k < 8→k < j→u / 256 ^ (j - 1 - k) % 256=(ys.getD k 0).toNat
 | 0,_,_=>⟨0,rfl,by decide,fun k _ h=>absurd h (Nat.not_lt_zero _)⟩
 | j+1,hj,h8=>by
  obtain ⟨u,h1,h2,h3⟩:=Jr ys hb j (by omega) (by omega)
  have hx:=bytes_at hb j
  obtain ⟨x,hxe⟩:∃ x:Nat,ys.getD j 0=(x:Int):=⟨(ys.getD j 0).toNat,by omega⟩
  have hx2:x < 256:=by omega
  have hu:u < 2 ^ 56:=acH h2 (by
   have:(256:Nat) ^ j≤256 ^ 7:=Nat.pow_le_pow_right (by decide) (by omega)
   exact Nat.le_trans this (by decide))
  refine ⟨u * 256+x,?_,?_,?_⟩
  ·rw [Ef ys j (by omega),h1,hxe,Wn u x hu hx2]
  ·rw [Nat.pow_succ];omega
  ·intro k hk hkj
   by_cases e:k=j
   ·subst e
    rw [show k+1 - 1 - k=0 by omega,Nat.pow_zero,Nat.div_one,hxe]
    omega
   ·have:=h3 k hk (by omega)
    rw [← this,show j+1 - 1 - k=(j - 1 - k)+1 by omega,Nat.pow_succ,Nat.mul_comm (256 ^ (j - 1 - k)) 256,← Nat.div_div_eq_div_mul,show (u * 256+x) / 256=u by omega]
theorem abQ (n:Int) (h:0≤n) (h2:n < 2 ^ 63) (zs:List Int):CY ((iV n ++ zs).take 8)=n:=by
 have hb:bytes (iV n):=lq n
 have e:(iV n ++ zs).take 8=iV n:=by rw [List.take_append_of_le_length (by rw [fU];exact acI _),acG (by rw [fU];exact acI _)]
 obtain ⟨m,rfl⟩:=Int.eq_ofNat_of_zero_le h
 obtain ⟨u,h1,h3,h4⟩:=Jr (iV m) hb 8 (by rw [fU];omega) (by omega)
 rw [acG (by rw [fU];omega)] at h1
 rw [e,h1]
 have hm:m < 2 ^ 63:=by omega
 have g:∀ k,k < 8→u / 256 ^ (7 - k) % 256=m / 256 ^ (7 - k) % 256:=by
  intro k hk
  have:=h4 k hk hk
  rw [this]
  have e2:(iV (m:Int)).getD k 0=(m:Int) / 2 ^ (8 * (7 - k)) % 256:=by simp [iV,List.getD,hk]
  rw [e2,show (256:Nat) ^ (7 - k)=2 ^ (8 * (7 - k)) by rw [Nat.pow_mul]]
  have:((m:Int) / 2 ^ (8 * (7 - k)) % 256)=((m / 2 ^ (8 * (7 - k)) % 256:Nat):Int):=by
   rw [Int.natCast_emod,Int.natCast_ediv,Int.natCast_pow];rfl
  rw [this,acP]
 have g0:=g 0 (by omega)
 have g1:=g 1 (by omega)
 have g2:=g 2 (by omega)
 have g3:=g 3 (by omega)
 have g4:=g 4 (by omega)
 have g5:=g 5 (by omega)
 have g6:=g 6 (by omega)
 have g7:=g 7 (by omega)
 simp only [Nat.sub_zero,Nat.reduceSub,Nat.reducePow] at g0 g1 g2 g3 g4 g5 g6 g7
 rw [show (256:Nat) ^ 8=18446744073709551616 by decide] at h3
 congr 1
 omega
theorem Aj (n:Int) (h:0≤n) (h2:n < 2 ^ 63) (zs:List Int):Ak (iV n ++ zs) false=n:=by
 unfold Ak jy
 have:jT (iV n ++ zs) false 8=true:=je.2 ⟨rfl,by omega,by rw [List.length_append,fU];omega⟩
 rw [if_pos this,show (8:Int).toNat=8 from rfl,abQ n h h2]
 exact IntWalk.wrap64_in n ⟨by omega,by omega⟩
end Go.Proofs.YthdgbgleklkaiaaDoor.Ce
