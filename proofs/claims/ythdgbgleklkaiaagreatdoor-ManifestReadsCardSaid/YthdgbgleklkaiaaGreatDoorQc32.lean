/- manifest.num, signature: The document's Mac, Extract. Condition: as each theorem says. -/

import Derived.Test.YthdgbgleklkaiaaGreatDoorQc30
open Go.Lib renaming hid→abC
open List renaming replicate→abD,length_take→abF,drop_replicate→abH
open Nat renaming le_refl→abE
set_option linter.unusedSimpArgs false
set_option linter.unusedVariables false
set_option maxRecDepth 100000
set_option maxHeartbeats 16000000
namespace Go.Proofs.YthdgbgleklkaiaaGreatDoor.Mf
open Go.RowKit Lm Fp Cu Sl Sc Ce
theorem _root_.Go.Proofs.YthdgbgleklkaiaaGreatDoor.dS.qlt {w:World} {p q:Nat} {zs:List Int} {bad:Bool} (h:dS w p q zs bad) (hz:zs≠[]):q < w.heap.size:=by
 obtain ⟨⟨sa,c,h1,h2,h3,h4,h5⟩,h6,h7⟩:=h
 have hl:0 < zs.length:=List.length_pos_iff.2 hz
 obtain ⟨a,e,hc⟩:=h2.cell 0 hl
 rw [← h5 a e]
 exact World.block_lt_of_cell? _ _ hc
theorem _root_.Go.Proofs.YthdgbgleklkaiaaGreatDoor.dS.Jd {T:Nat→Prop} {w w':World} {p q:Nat} {zs:List Int} {bad:Bool} (h:dS w p q zs bad) (k:Kept T w w') (hp:¬ T p) (hq:zs≠[]→¬ T q):dS w' p q zs bad:=by
 obtain ⟨⟨sa,c,h1,h2,h3,h4,h5⟩,h6,h7⟩:=h
 refine ⟨⟨sa,c,k.blk h1 hp,?_,h3,h4,h5⟩,h6,Nat.lt_of_lt_of_le h7 k.size⟩
 by_cases hz:zs=[]
 ·subst hz
  exact ⟨rfl,fun i hi=>absurd hi (by simp)⟩
 ·exact h2.kept k (fun a e => .inr (by rw [h5 a e];exact hq hz))
def jL (zs:List Int) (bad:Bool) (n:Nat):List Int:=if dR zs bad n then zs.take n else abD n 0
theorem fq (zs:List Int) (bad:Bool) (n:Nat):(jL zs bad n).length=n:=by
 unfold jL
 split
 ·rename_i h
  obtain ⟨-, -, h2⟩:=eu.1 h
  rw [abF]
  omega
 ·simp
theorem tF (zs:List Int) (bad:Bool) (n:Nat):(bX zs bad n).length≤n:=by
 unfold bX
 split
 ·rw [abF,Int.toNat_natCast]
  exact Nat.min_le_left _ _
 ·simp
theorem zT (zs:List Int) (bad:Bool) (n:Nat):((arr .u8 (abD n 0)).toList.take 0 ++ (bX zs bad n).map (Value.int .u8) ++ (arr .u8 (abD n 0)).toList.drop (0+(bX zs bad n).length)).toArray=arr .u8 (jL zs bad n):=by
 unfold bX jL
 split
 ·rename_i h
  obtain ⟨-, -, h2⟩:=eu.1 h
  have hl:(zs.take n).length=n:=by rw [abF];omega
  apply Array.ext'
  simp [arr,hl]
 ·apply Array.ext'
  simp [arr]
theorem Fy (p q:Nat) (zs:List Int) (bad:Bool) (w:World) (h:dS w p q zs bad) (hl:zs.length≤1099511627776) :
  Calls Tryz.prog 42 #[.pointer (some ⟨p,0,none⟩)] w fun e w'=>e = .returned (.agg (arr .u8 (jL zs bad 32)))∧dS w' p q (mP zs bad 32) (!dR zs bad 32)∧Kept (· = p) w w':=by
 obtain ⟨zn,hzn,HZ,Kj⟩:=zN Sl.zero_num
 have hb0:=((Below.refl _ w).alloc (abE _) (.cells (arr .u8 zn) 25)).alloc (by simp) (.cells (arr .u8 zn) 25)
 have Ju:=h.lt
 have HQ:=abC (fun hz=>h.qlt hz)
 have hr:=fun (u:World) (k:dS u p q zs bad)=>pX p q zs bad 32 u k hl
 have hnl:(bX zs bad 32).length≤32:=tF zs bad 32
 have FY:((arr .u8 zn).toList.take 0 ++ (bX zs bad 32).map (Value.int .u8) ++ (arr .u8 zn).toList.drop (0+(bX zs bad 32).length)).toArray=arr .u8 (jL zs bad 32):=by rw [hzn];exact zT zs bad 32
 have hvl:=fq zs bad 32
 obtain ⟨R,hR⟩:∃ R,R=bX zs bad 32:=⟨_,rfl⟩
 rw [← hR] at hr hnl FY
 generalize jL zs bad 32=N at FY hvl ⊢
 have HI0:Hid (((w.alloc (.cells (arr .u8 zn) 25)).alloc (.cells (arr .u8 zn) 25)).heap[w.heap.size]? = some (.cells (arr .u8 zn) 25 (0,0))):=abC (aY (aH w _) _)
 have HI1:Hid (((w.alloc (.cells (arr .u8 zn) 25)).alloc (.cells (arr .u8 zn) 25)).heap[w.heap.size+1]? = some (.cells (arr .u8 zn) 25 (0,0))):=abC (by have:=aH (w.alloc (.cells (arr .u8 zn) 25)) (.cells (arr .u8 zn) 25);rwa [World.size_alloc] at this)
 have HC:=abC (h.below hb0)
 have HB0:=abC hb0
 have HP:=abC Ju
 have HR:=abC hr
 have uL:=abC hnl
 have HNV:=abC FY
 have vU:=abC hvl
 clear h hl hb0 Ju hr hnl FY hvl hR hzn
 go_enter Tryz.func42, Tryz.ntmps42
 go_upto_region 2 with (first|((with_reducible refine aS 2 ?_);refine ah rfl 25 rfl _ (HZ.out _) ?_)|((with_reducible refine aS 3 ?_);refine ah rfl 25 rfl _ (HZ.out _) ?_))
 (try simp only [World.size_alloc,Act.put,sA,sZ,sS])
 generalize ((w.alloc (.cells (arr .u8 zn) 25)).alloc (.cells (arr .u8 zn) 25))=wb at HI0 HI1 HC HB0 ⊢
 refine wp_region_held_drew (S:=fun u=>True) (by kernel_rfl) (trivial) (fun hHeld=>?_)
 refine pT 0 ⟨some 4,_,_,_,_,none⟩ (.slice (some ⟨w.heap.size+1,0,none⟩) 32 32) ?_
 (try simp only [Act.put,sA,sZ,sS])
 refine pT 1 ⟨some 5,_,_,_,_,none⟩ (.pointer (some ⟨p,0,none⟩)) ?_
 (try simp only [Act.put,sA,sZ,sS])
 refine pR 2 ⟨some 6,_,_,_,_,none⟩ (fun K hK=>?_)
 go_simp
 go_at_call 40
 refine (HR.out _ (HC.out.below (Below.refl _ wb).drew)).mono ?_
 rintro e w1 ⟨v1,rfl,ho,hc,hk⟩
 have xB:=abC hc
 obtain ⟨s1,c1,rfl, -, -, hs1, -⟩:=ho.form
 have iY:=abC hs1
 have qJ:Hid (Kept (· = p) wb w1):=abC ((Kept.of_below (Below.refl _ wb).drew).trans hk)
 have HJ0:=abC (qJ.out.blk HI0.out (by have:=HP.out;omega))
 have HJ1:=abC (qJ.out.blk HI1.out (by have:=HP.out;omega))
 clear ho hc hk hs1
 refine hK.out _ _ (trivial) (fun hHeld=>?_)
 clear hK K
 (try simp only [Act.put,sA,sZ,sS])
 refine pR 3 ⟨some 7,_,_,_,_,none⟩ (fun K hK=>?_)
 refine kU rfl (.tmp 4) (.tmp 6) rfl (w.heap.size+1) 0 32 32 R.length c1 s1 (arr .u8 zn) R 25 rfl rfl HJ1.out iY.out uL.out (by rw [aD,Kj.out];have:=uL.out;omega) ?_
 intro w2 hb2 hk2
 rw [HNV.out] at hb2
 have oH:=abC hb2
 have Oo:=abC (hk2.blk HJ0.out (by omega))
 have Oo:=abC (hk2.blk HJ0.out (by omega))
 have wI:=abC hk2
 clear hb2 hk2
 refine hK.out _ _ (trivial) (fun hHeld=>?_)
 clear hK K
 (try simp only [Act.put,sA,sZ,sS])
 refine wpAnyH_done (by kernel_rfl) ?_ _
 (try simp only [Exit.then])
 clear hHeld
 go_wp2_with (first|((with_reducible refine aS 8 ?_);refine aB rfl 25 _ rfl (w.heap.size+1) 0 _ 25 (0,0) _ oH.out rfl .u8 N (aj _ _) Tryz.underlying25 rfl (Sl.bU vU.out) ?_)|((with_reducible refine aT 2 ?_);refine au rfl 25 _ _ rfl (w.heap.size) _ _ 25 Oo.out rfl rfl (av _ _ vU.out Kj.out) (Sl.bG vU.out) (ak _ _) ?_;intro w3 hb3 hk3 hz3;have HB3:=abC hb3;have GI:=abC hk3;clear hb3 hk3 hz3))
 (try simp only [Exit.then])
 refine bodyPost_ret (results_cell_row rfl _ _ (w.heap.size) 25 _ (0,0) _ rfl HB3.out Tryz.underlying25 rfl (Sl.bG vU.out)) rfl ?_
 have hk:Kept (· = p) w w3:=((((Kept.of_below HB0.out (T:=(· = p))).trans qJ.out).bS wI.out (fun i hi e=>by have e:i=w.heap.size+1:=e;omega)).bS GI.out (fun i hi e=>by have e:i=w.heap.size:=e;omega))
 have hx:∀ k,mP zs bad 32≠[]→k=w.heap.size∨k=w.heap.size+1→q≠k:=fun k hz hk e=>by
  have:=HQ.out (fun e2=>hz (by rw [e2,mP];split <;> simp))
  omega
 exact ⟨rfl,(xB.out.Jd wI.out (by have:=HP.out;omega) (fun hz e=>hx _ hz (.inr rfl) e)).Jd GI.out (by have:=HP.out;omega) (fun hz e=>hx _ hz (.inl rfl) e),hk⟩
theorem PG (p q:Nat) (zs:List Int) (bad:Bool) (w:World) (h:dS w p q zs bad) (hl:zs.length≤1099511627776) :
  Calls Tryz.prog 43 #[.pointer (some ⟨p,0,none⟩)] w fun e w'=>e = .returned (.agg (arr .u8 (jL zs bad 64)))∧dS w' p q (mP zs bad 64) (!dR zs bad 64)∧Kept (· = p) w w':=by
 obtain ⟨zn,hzn,HZ,Kj⟩:=zN Sl.sJ
 have hb0:=((Below.refl _ w).alloc (abE _) (.cells (arr .u8 zn) 27)).alloc (by simp) (.cells (arr .u8 zn) 27)
 have Ju:=h.lt
 have HQ:=abC (fun hz=>h.qlt hz)
 have hr:=fun (u:World) (k:dS u p q zs bad)=>pX p q zs bad 64 u k hl
 have hnl:(bX zs bad 64).length≤64:=tF zs bad 64
 have FY:((arr .u8 zn).toList.take 0 ++ (bX zs bad 64).map (Value.int .u8) ++ (arr .u8 zn).toList.drop (0+(bX zs bad 64).length)).toArray=arr .u8 (jL zs bad 64):=by rw [hzn];exact zT zs bad 64
 have hvl:=fq zs bad 64
 obtain ⟨R,hR⟩:∃ R,R=bX zs bad 64:=⟨_,rfl⟩
 rw [← hR] at hr hnl FY
 generalize jL zs bad 64=N at FY hvl ⊢
 have HI0:Hid (((w.alloc (.cells (arr .u8 zn) 27)).alloc (.cells (arr .u8 zn) 27)).heap[w.heap.size]? = some (.cells (arr .u8 zn) 27 (0,0))):=abC (aY (aH w _) _)
 have HI1:Hid (((w.alloc (.cells (arr .u8 zn) 27)).alloc (.cells (arr .u8 zn) 27)).heap[w.heap.size+1]? = some (.cells (arr .u8 zn) 27 (0,0))):=abC (by have:=aH (w.alloc (.cells (arr .u8 zn) 27)) (.cells (arr .u8 zn) 27);rwa [World.size_alloc] at this)
 have HC:=abC (h.below hb0)
 have HB0:=abC hb0
 have HP:=abC Ju
 have HR:=abC hr
 have uL:=abC hnl
 have HNV:=abC FY
 have vU:=abC hvl
 clear h hl hb0 Ju hr hnl FY hvl hR hzn
 go_enter Tryz.func43, Tryz.ntmps43
 go_upto_region 2 with (first|((with_reducible refine aS 2 ?_);refine ah rfl 27 rfl _ (HZ.out _) ?_)|((with_reducible refine aS 3 ?_);refine ah rfl 27 rfl _ (HZ.out _) ?_))
 (try simp only [World.size_alloc,Act.put,sA,sZ,sS])
 generalize ((w.alloc (.cells (arr .u8 zn) 27)).alloc (.cells (arr .u8 zn) 27))=wb at HI0 HI1 HC HB0 ⊢
 refine wp_region_held_drew (S:=fun u=>True) (by kernel_rfl) (trivial) (fun hHeld=>?_)
 refine pT 0 ⟨some 4,_,_,_,_,none⟩ (.slice (some ⟨w.heap.size+1,0,none⟩) 64 64) ?_
 (try simp only [Act.put,sA,sZ,sS])
 refine pT 1 ⟨some 5,_,_,_,_,none⟩ (.pointer (some ⟨p,0,none⟩)) ?_
 (try simp only [Act.put,sA,sZ,sS])
 refine pR 2 ⟨some 6,_,_,_,_,none⟩ (fun K hK=>?_)
 go_simp
 go_at_call 40
 refine (HR.out _ (HC.out.below (Below.refl _ wb).drew)).mono ?_
 rintro e w1 ⟨v1,rfl,ho,hc,hk⟩
 have xB:=abC hc
 obtain ⟨s1,c1,rfl, -, -, hs1, -⟩:=ho.form
 have iY:=abC hs1
 have qJ:Hid (Kept (· = p) wb w1):=abC ((Kept.of_below (Below.refl _ wb).drew).trans hk)
 have HJ0:=abC (qJ.out.blk HI0.out (by have:=HP.out;omega))
 have HJ1:=abC (qJ.out.blk HI1.out (by have:=HP.out;omega))
 clear ho hc hk hs1
 refine hK.out _ _ (trivial) (fun hHeld=>?_)
 clear hK K
 (try simp only [Act.put,sA,sZ,sS])
 refine pR 3 ⟨some 7,_,_,_,_,none⟩ (fun K hK=>?_)
 refine kU rfl (.tmp 4) (.tmp 6) rfl (w.heap.size+1) 0 64 64 R.length c1 s1 (arr .u8 zn) R 27 rfl rfl HJ1.out iY.out uL.out (by rw [aD,Kj.out];have:=uL.out;omega) ?_
 intro w2 hb2 hk2
 rw [HNV.out] at hb2
 have oH:=abC hb2
 have Oo:=abC (hk2.blk HJ0.out (by omega))
 have Oo:=abC (hk2.blk HJ0.out (by omega))
 have wI:=abC hk2
 clear hb2 hk2
 refine hK.out _ _ (trivial) (fun hHeld=>?_)
 clear hK K
 (try simp only [Act.put,sA,sZ,sS])
 refine wpAnyH_done (by kernel_rfl) ?_ _
 (try simp only [Exit.then])
 clear hHeld
 go_wp2_with (first|((with_reducible refine aS 8 ?_);refine aB rfl 27 _ rfl (w.heap.size+1) 0 _ 27 (0,0) _ oH.out rfl .u8 N (aj _ _) Tryz.underlying27 rfl (Sl.sig_i vU.out) ?_)|((with_reducible refine aT 2 ?_);refine au rfl 27 _ _ rfl (w.heap.size) _ _ 27 Oo.out rfl rfl (av _ _ vU.out Kj.out) (Sl.sU vU.out) (ak _ _) ?_;intro w3 hb3 hk3 hz3;have HB3:=abC hb3;have GI:=abC hk3;clear hb3 hk3 hz3))
 (try simp only [Exit.then])
 refine bodyPost_ret (results_cell_row rfl _ _ (w.heap.size) 27 _ (0,0) _ rfl HB3.out Tryz.underlying27 rfl (Sl.sU vU.out)) rfl ?_
 have hk:Kept (· = p) w w3:=((((Kept.of_below HB0.out (T:=(· = p))).trans qJ.out).bS wI.out (fun i hi e=>by have e:i=w.heap.size+1:=e;omega)).bS GI.out (fun i hi e=>by have e:i=w.heap.size:=e;omega))
 have hx:∀ k,mP zs bad 64≠[]→k=w.heap.size∨k=w.heap.size+1→q≠k:=fun k hz hk e=>by
  have:=HQ.out (fun e2=>hz (by rw [e2,mP];split <;> simp))
  omega
 exact ⟨rfl,(xB.out.Jd wI.out (by have:=HP.out;omega) (fun hz e=>hx _ hz (.inr rfl) e)).Jd GI.out (by have:=HP.out;omega) (fun hz e=>hx _ hz (.inl rfl) e),hk⟩
end Go.Proofs.YthdgbgleklkaiaaGreatDoor.Mf
namespace Go.Proofs.YthdgbgleklkaiaaGreatDoor.Wr
open Go.RowKit Lm Cu Sl
theorem dJ {a b:World} (h:Ha.eP a) (k:Below a.heap.size a b):Ha.eP b:=fun t ht=>(Kept.of_below k (T:=fun _=>False)).lV (h t ht) id
theorem lK {w:World} {ops:Array Oper} {rest:List Oper} {o:Oper} {a:Act} {Q:Exit→Act→World→Prop} (hgd:o.guard=none) (s x:Operand)
  (ho:o.op = .call { callee := .builtin .append,args := #[s,x],argTypes := #[22, 22] }) (g n m c:Nat) (a2:Addr) (xs ys:List Int) (hs:a.eval s = .slice (some ⟨g,0,none⟩) n n) (hx:a.eval x = .slice (some a2) m c)
  (h1:Src w (some ⟨g,0,none⟩) n xs) (h2:Src w (some a2) m ys) (hm:0 < m) (hle:n+m≤1099511627776)
  (h:∀ g' cap w',Src w' (some ⟨g',0,none⟩) (n+m) (xs ++ ys)→n+m≤cap→Below w.heap.size w w'→wpList Tryz.prog ops Q rest (a.put o.dst (.slice (some ⟨g',0,none⟩) (n+m) cap)) w'):wpList Tryz.prog ops Q (o :: rest) a w:=by
 refine wpList_plain hgd fun K hK=>?_
 have hq:=xG (ops:=ops) (a:=a) (K:=K) (Q:=Q) (E:=True) hgd s x ho g n m c a2 xs ys hs hx h1 h2 hm hle (fun g' cap w' h3 h4 h5=>hK _ _ (h g' cap w' h3 h4 h5))
 rw [if_pos (by simp [Region.wanted,hgd])] at hq
 exact hq
theorem IJ (key msg:List Int) (ad:Addr) (nk ck:Nat) (a2:Addr) (nb cb:Nat) (w:World) (hs:Src w (some ad) nk key) (hb:bytes key) (hnk:nk≤64) (hB:Src w (some a2) nb msg) (bB:bytes msg) (h0:0 < nb) (hN:nb≤1073741824) (hk:Ha.eP w) :
  Calls Tryz.prog 184 #[.slice (some ad) nk ck, .slice (some a2) nb cb] w fun e w'=>e = .returned (.agg (arr .u8 (Lg key msg)))∧Below w.heap.size w w':=by
 have hl:=hs.len
 have hl2:=hB.len
 have hgt:¬ (64:Int) < (nk:Int):=by omega
 obtain ⟨z64,hz⟩:∃ z:List Int,z=abD 64 0:=⟨_,rfl⟩
 have hmk:∀ u:World,(Instr.makeSlice 22 (.int .i64 64) (.int .i64 64)).run Tryz.prog u = .ok (.slice (some ⟨u.heap.size,0,none⟩) 64 64) (u.alloc (.cells (arr .u8 z64) 5)):=by intro u;rw [hz];exact mk64 u
 have hzl:z64.length=64:=by rw [hz];rfl
 have h54:key ++ z64.drop nk=kM key 54 0:=by rw [hz,← Dq key 54 (by omega),abH,hl]
 have h92:key ++ z64.drop nk=kM key 92 0:=by rw [hz,← Dq key 92 (by omega),abH,hl]
 have hget:=fun b i h=>WM key b i h
 have hset:=fun b i h=>WL key b i h
 have b1:=Dp key 54
 have b2:=Dp key 92
 have l1:(pad key 54).length=64:=jX _ _ _
 have l2:(pad key 92).length=64:=jX _ _ _
 have hsh1:=fun (s:Addr) (c:Nat) (u:World) (h:Src u (some s) (64+nb) (pad key 54 ++ msg)) (hk:Ha.eP u)=>Ha.jw (some s) (64+nb) c _ u h (jk b1 bB) (by omega) hk
 obtain ⟨h1,yG⟩:∃ x,x=Ha.hash (pad key 54 ++ msg):=⟨_,rfl⟩
 have hl1:h1.length=32:=by rw [yG];exact dM _
 have hb1:bytes h1:=by rw [yG];exact fu _
 have Js:=fun (s:Addr) (c:Nat) (u:World) (h:Src u (some s) (64+32) (pad key 92 ++ h1)) (hk:Ha.eP u)=>Ha.jw (some s) (64+32) c _ u h (jk b2 hb1) (by decide) hk
 have hm:Lg key msg=Ha.hash (pad key 92 ++ h1):=by rw [yG];rfl
 rw [hm]
 rw [← yG] at hsh1
 obtain ⟨h2,hh2⟩:∃ x,x=Ha.hash (pad key 92 ++ h1):=⟨_,rfl⟩
 have hl3:h2.length=32:=by rw [hh2];exact dM _
 rw [← hh2] at Js ⊢
 have HSH1:=abC hsh1
 have HSH2:=abC Js
 have oH:=abC l1
 have HL2:=abC l2
 have xA:=abC hl1
 have HH2:=abC hl3
 have HS:=abC hs
 have HB:=abC hB
 have H0:=abC h0
 have Q8:=abC hN
 have HNK:=abC hnk
 have uz:=abC hzl
 have H54:=abC h54
 have H92:=abC h92
 have HGET:=abC hget
 have HSET:=abC hset
 have vV:=abC hk
 obtain ⟨zn,hzn,dB,dw⟩:=zN zero_num
 have HI0:=abC (bO.three w (arr .u8 zn) (arr .u8 z64) (arr .u8 z64) 25 5 5)
 clear hz hzl h54 h92 hget hset b1 b2 l1 l2 hsh1 Js yG hl1 hb1 hm hh2 hl3 hs hB bB hb hnk h0 hN hk hl hl2 hzn
 go_enter Tryz.func184, Tryz.ntmps184
 go_upto_region 6 with (first|((with_reducible refine aS 4 ?_);refine ah rfl 25 rfl _ (dB.out _) ?_))
 (try simp only [World.size_alloc,Act.put,sA,sZ,sS])
 generalize (((w.alloc (.cells (arr .u8 zn) 25)).alloc (.cells (arr .u8 z64) 5)).alloc (.cells (arr .u8 z64) 5))=wb at HI0 ⊢
 go_upto_region 9 with (first|((with_reducible refine aS 20 ?_);refine wO rfl (.tmp 18) (.tmp 19) rfl (w.heap.size+1) 64 64 nk ck ad z64 key 5 rfl rfl (HI0.out.get 1 rfl) (HS.out.below HI0.out.below) HNK.out (by rw [uz.out];exact abE _) ?_;rw [H54.out];intro w1 hb1 hk1;have HI1:=abC (HI0.out.put 1 rfl hk1 hb1);clear hb1 hk1)|((with_reducible refine aS 23 ?_);refine wO rfl (.tmp 21) (.tmp 22) rfl (w.heap.size+1+1) 64 64 nk ck ad z64 key 5 rfl rfl (HI1.out.get 2 rfl) (HS.out.below HI1.out.below) HNK.out (by rw [uz.out];exact abE _) ?_;rw [H92.out];intro w2 hb1 hk1;have HI2:=abC (HI1.out.put 2 rfl hk1 hb1);clear hb1 hk1))
 (try simp only [World.size_alloc,Act.put,sA,sZ,sS])
 go_loopw [8] (fun v wr=>∃ i:Nat,i≤64∧v = .int .i64 i∧bO w wr [(w.heap.size,arr .u8 zn, 25),(w.heap.size+1,arr .u8 (kM key 54 i), 5),(w.heap.size+1+1,arr .u8 (kM key 92 i), 5)]) (fun v _=>64 - (intOf v).toNat)
 case atStart=>exact ⟨0,Nat.zero_le _,rfl,HI2.out⟩
 clear HI2 HI0
 case round =>
 obtain ⟨i,hi,rfl,hB⟩:=hrel
 by_cases hlt:i < 64
 ·have q0:=aP (hB.get 1 rfl) i (by rw [jX];exact hlt)
  have q1:=aC (hB.get 1 rfl) i
  have p0:=aP (hB.get 2 rfl) i (by rw [jX];exact hlt)
  rw [HGET.out _ i hlt] at q0 p0
  have s1:=HSET.out 54 i hlt
  have s2:=HSET.out 92 i hlt
  generalize key.getD i 0=y at q0 p0 s1 s2
  have hb1:=hB.cell 1 rfl i (.int .u8 (bits .xor .u8 y 54))
  have e1:(arr .u8 (kM key 54 i)).setIfInBounds i (.int .u8 (bits .xor .u8 y 54))=arr .u8 (kM key 54 (i+1)):=by rw [bq,s1]
  have hb2:=hb1.cast (l':=[(w.heap.size,arr .u8 zn, 25),(w.heap.size+1,arr .u8 (kM key 54 (i+1)), 5),(w.heap.size+1+1,arr .u8 (kM key 92 i), 5)]) (by rw [← e1];rfl)
  have p1:=aP (hb2.get 2 rfl) i (by rw [jX];exact hlt)
  have p2:=aC (hb2.get 2 rfl) i
  rw [HGET.out _ i hlt] at p1
  have hy:key.getD i 0=y:=by
   have:=aP (hB.get 2 rfl) i (by rw [jX];exact hlt)
   rw [HGET.out _ i hlt,p0] at this
   injection this with this
   injection this with _ this
   exact this.symm
  rw [hy] at p1
  have hb3:=hb2.cell 2 rfl i (.int .u8 (bits .xor .u8 y 92))
  have e2:(arr .u8 (kM key 92 i)).setIfInBounds i (.int .u8 (bits .xor .u8 y 92))=arr .u8 (kM key 92 (i+1)):=by rw [bq,s2]
  have HB3:=abC (hb3.cast (l':=[(w.heap.size,arr .u8 zn, 25),(w.heap.size+1,arr .u8 (kM key 54 (i+1)), 5),(w.heap.size+1+1,arr .u8 (kM key 92 (i+1)), 5)]) (by rw [← e2];rfl))
  clear hb1 hb2 hb3 e1 e2 s1 s2 hB p0 hy
  go_wp2_with fail
  go_roundw
  case rel=>exact ⟨i+1,by omega,by go_num,HB3.out⟩
  case measure=>simp [intOf];omega
 ·obtain rfl:i=64:=by omega
  have HI3:=abC hB
  clear hB
  go_wp2_with (first|((with_reducible refine aS 46 ?_);refine lK rfl (.tmp 44) (.tmp 45) rfl (w.heap.size+1) 64 nb cb a2 (pad key 54) msg rfl rfl (bQ (HI3.out.get 1 rfl) 64 oH.out) (HB.out.below HI3.out.below) H0.out (by have:=Q8.out;omega) ?_;intro g4 c4 w4 hs4 _ hb4;have H9:=abC hs4;have HI4:=abC (HI3.out.kept hb4);clear hs4 hb4)|((with_reducible show Calls _ 16 _ _ _);go_at_call 16; refine (HSH1.out _ _ _ H9.out (dJ vV.out HI4.out.below)).mono ?_;rintro e w5 ⟨rfl,hb5⟩;have HI5:=abC (HI4.out.kept hb5);clear hb5 HSH1)|((with_reducible refine aS 9 ?_);refine lA rfl rfl (dB.out _) HI5 ?_;intro g9 w6 HI6)|((with_reducible refine aT 9 ?_);refine lS rfl rfl HI6 3 rfl rfl rfl (av _ _ xA.out dw.out) (bG xA.out) (ak _ _) ?_;intro w7 HI7)|((with_reducible refine aS 50 ?_);refine lK rfl (.tmp 48) (.tmp 49) rfl (w.heap.size+1+1) 64 32 32 ⟨g9,0,none⟩ (pad key 92) h1 rfl rfl (bQ (HI7.out.get 2 rfl) 64 HL2.out) (bQ (HI7.out.get 3 rfl) 32 xA.out) (by decide) (by decide) ?_;intro g8 c8 w8 hs8 _ CK;have Kg:=abC hs8;have HI8:=abC (HI7.out.kept CK);clear hs8 CK)|((with_reducible show Calls _ 16 _ _ _);go_at_call 16; refine lC (HSH2.out _ _ _ Kg.out (dJ vV.out HI8.out.below)) HI8 ?_;intro w9 HI9)|((with_reducible refine aT 4 ?_);refine lS rfl rfl HI9 0 rfl rfl rfl (av _ _ HH2.out dw.out) (bG HH2.out) (ak _ _) ?_;intro w10 HI10))
  (try simp only [Exit.then])
  refine bodyPost_ret (results_cell_row rfl _ _ (w.heap.size) 25 _ (0,0) _ rfl (HI10.out.get 0 rfl) Tryz.underlying25 rfl (bG HH2.out)) rfl ?_
  exact ⟨rfl,HI10.out.below⟩
theorem ES (R5 key:List Int) (ad:Addr) (nk ck:Nat) (a2:Addr) (nb cb:Nat) (w:World) (hs:Src w (some ad) nk R5) (hb:bytes R5) (hnk:nk≤64) (hB:Src w (some a2) nb key) (bB:bytes key) (h0:0 < nb) (hN:nb≤1073741824) (hk:Ha.eP w) :
  Calls Tryz.prog 138 #[.slice (some ad) nk ck, .slice (some a2) nb cb] w fun e w'=>e = .returned (.agg (arr .u8 (Lg R5 key)))∧Below w.heap.size w w':=by
 have hms:=fun (u:World) (h1:Src u (some ad) nk R5) (h2:Src u (some a2) nb key) (h3:Ha.eP u)=>IJ R5 key ad nk ck a2 nb cb u h1 hb hnk h2 bB h0 hN h3
 obtain ⟨h1,yG⟩:∃ x,x=Lg R5 key:=⟨_,rfl⟩
 rw [← yG] at hms ⊢
 have xA:Hid (h1.length=32):=abC (by rw [yG];exact FK _ _)
 have Gs:=abC hms
 have HS:=abC hs
 have yM:=abC hB
 have vV:=abC hk
 obtain ⟨zn,hzn,dB,dw⟩:=zN zero_num
 have HI0:=abC (bO.one w (arr .u8 zn) 25)
 clear yG hms hs hB hzn hb bB hnk hN h0 hk
 go_enter Tryz.func138, Tryz.ntmps138
 go_upto_region 1 with (first|((with_reducible refine aS 4 ?_);refine ah rfl 25 rfl _ (dB.out _) ?_))
 (try simp only [World.size_alloc,Act.put,sA,sZ,sS])
 generalize (w.alloc (.cells (arr .u8 zn) 25))=wb at HI0 ⊢
 go_wp2_with (first|((with_reducible show Calls _ 184 _ _ _);go_at_call 184; refine lC (Gs.out _ (HS.out.below HI0.out.below) (yM.out.below HI0.out.below) (dJ vV.out HI0.out.below)) HI0 ?_;intro w1 HI1)|((with_reducible refine aT 4 ?_);refine lS rfl rfl HI1 0 rfl rfl rfl (av _ _ xA.out dw.out) (bG xA.out) (ak _ _) ?_;intro w2 HI2))
 (try simp only [Exit.then])
 refine bodyPost_ret (results_cell_row rfl _ _ (w.heap.size) 25 _ (0,0) _ rfl (HI2.out.get 0 rfl) Tryz.underlying25 rfl (bG xA.out)) rfl ?_
 exact ⟨rfl,HI2.out.below⟩
end Go.Proofs.YthdgbgleklkaiaaGreatDoor.Wr
