/- aead.Seal and the document's. image.may, image.nonce, the document's s. Condition: as each theorem says. -/

import Derived.Test.YthdgbgleklkaiaaGreatDoorQc31
open Go.Lib renaming hid→abC
open List renaming replicate→abD,length_map→abE,getElem?_map→abG
open Nat renaming le_refl→abF,lt_of_lt_of_le→abI
set_option linter.unusedSimpArgs false
set_option linter.unusedVariables false
set_option maxRecDepth 100000
set_option maxHeartbeats 16000000
namespace Go.Proofs.YthdgbgleklkaiaaGreatDoor.Ae
open Go.RowKit Lm Po Ch
theorem src_arr {w:World} {g:Nat} {xs:List Int} {t:TypeId} {fr:Nat×Nat} (h:w.heap[g]? = some (.cells (arr .u8 xs) t fr)) (m:Nat) (hm:xs.length=m):Src w (some ⟨g,0,none⟩) m xs :=
 nK h (by rw [bN,Nat.mul_one,List.take_of_length_le (by rw [abE];exact abF _)]) hm
theorem Dj (key aM plain beside:List Int) (sp sb:Option Addr) (n1 n2 c1 c2:Nat) (w:World) (hk:key.length=32) (hn:aM.length=12) (bk:bytes key) (bn:bytes aM) (hp:Src w sp n1 plain) (hb:Src w sb n2 beside) (bb:bytes beside) (l1:n1≤137438953472) (l2:n2≤137438953472) :
  Calls Tryz.prog 98 #[.agg (arr .u8 key), .agg (arr .u8 aM), .slice sp n1 c1, .slice sb n2 c2] w fun e w'=>∃ v,e = .returned v∧aU w' w.heap.size v (lN key aM plain beside)∧Below w.heap.size w w':=by
 have hpl:=hp.len
 obtain ⟨zt,Ci⟩:∃ zs:List Int,zs=abD 16 0:=⟨_,rfl⟩
 have hyt:∀ w,(zeroValue 177).run Tryz.prog w = .ok (.agg (arr .u8 zt)) w:=by intro w;rw [Ci];exact Pj w
 have Je:zt.length=16:=by rw [Ci];rfl
 have M1:=fun w hs=>Sg sp n1 c1 plain key aM 1 w hs hk hn bk bn (by omega)
 obtain ⟨tx,htx⟩:∃ x,x=turn key 1 aM plain:=⟨_,rfl⟩
 have txl:tx.length=n1:=by rw [htx,yZ,hpl]
 have txb:bytes tx:=by rw [htx];exact Bl _ _ _ _
 have M2:=fun sc c1 w (hc:Src w sc n1 tx) hb=>Wn key aM tx beside sc sb n1 n2 c1 c2 w hk hn bk bn hc hb txb bb (by omega) (by omega)
 obtain ⟨tg,Qt⟩:∃ x,x=tag key aM tx beside:=⟨_,rfl⟩
 have tgl:tg.length=16:=by rw [Qt,xW]
 have hse:tx ++ tg=lN key aM plain beside:=by rw [lN,← htx,← Qt]
 rw [← htx] at M1
 rw [← Qt] at M2
 rw [← hse]
 have S0:=B2.start w (arr .u8 key) (arr .u8 aM) 25 135
 have bW:=abC S0
 have HK:=abC hk
 have HN:=abC hn
 have HP:=abC (hp.below S0.below)
 have HB:=abC (hb.below S0.below)
 have HYT:=abC hyt
 have HZT:=abC Je
 have Em:=abC M1
 have Ia:=abC M2
 have TXL:=abC txl
 have U1:=abC tgl
 clear S0 hk hn hp hb hpl hyt Je M1 M2 txl tgl Ci htx txb Qt hse bk bn bb
 go_enter Tryz.func98, Tryz.ntmps98
 go_wp2_with (first|((with_reducible refine aS 11 ?_);refine aB rfl 25 _ rfl w.heap.size 0 _ 25 (0,0) _ bW.out.b0 rfl .u8 key (aj _ _) Tryz.underlying25 rfl (by rw [HK.out];exact qZ) ?_)|((with_reducible refine aS 12 ?_);refine aB rfl 135 _ rfl (w.heap.size+1) 0 _ 135 (0,0) _ bW.out.b1 rfl .u8 aM (aj _ _) Tryz.underlying135 rfl (by rw [HN.out];exact uR) ?_)|((with_reducible show Calls _ _ #[_, .int _ _,_,_] _ _);go_at_call 136; refine (Em.out _ HP.out).mono ?_;rintro e w1 ⟨v1,rfl,ho1,hbw⟩;have HB1:=abC (bW.out.after hbw);obtain ⟨s1,D6,hv1, -, -, hs1, -⟩:=ho1.form;rw [TXL.out] at hv1 hs1;subst hv1;have UR:=abC ho1;have HX1:=abC hs1;have HBS:=abC (HB.out.below hbw);have hsz1:w.heap.size≤w1.heap.size:=HB1.out.below.size;clear hbw ho1 hs1)|((with_reducible refine aS 15 ?_);refine aB rfl 25 _ rfl w.heap.size 0 _ 25 (0,0) _ HB1.out.b0 rfl .u8 key (aj _ _) Tryz.underlying25 rfl (by rw [HK.out];exact qZ) ?_)|((with_reducible refine aS 16 ?_);refine aB rfl 135 _ rfl (w.heap.size+1) 0 _ 135 (0,0) _ HB1.out.b1 rfl .u8 aM (aj _ _) Tryz.underlying135 rfl (by rw [HN.out];exact uR) ?_)|((with_reducible show Calls _ _ _ w1 _);go_at_call 135; refine (Ia.out s1 D6 w1 HX1.out HBS.out).mono ?_;rintro e w2 ⟨rfl,hbw⟩;have HB2:=abC (HB1.out.after hbw);have xV:=abC (UR.out.below hbw);clear hbw)|((with_reducible refine aS 10 ?_);refine ah rfl 177 rfl _ (HYT.out _) ?_;go_simp)|((with_reducible refine aT 10 ?_);refine au rfl 177 _ _ rfl w2.heap.size _ _ 177 (aH _ _) rfl rfl (by rw [aD,aD,U1.out,HZT.out]) (NJ tg U1.out) (ak _ _) ?_;intro w3 hb3 hk3 hz3;have hl3:=aV HB2.out.b1;have HB3:=abC ((HB2.out.alloc (.cells (arr .u8 zt) 177)).TT hk3 (by rintro i rfl;omega));have HG3:=abC (src_arr hb3 16 U1.out);have HO3:=abC (((xV.out.alloc (.cells (arr .u8 zt) 177)).kept hk3 (fun g hg e=>by have:=(xV.out.lt g hg).2;omega)).mono (B':=w.heap.size) (by simp;omega));clear hb3 hk3 hz3)|((with_reducible refine aS 22 ?_);refine aX rfl _ _ rfl w.heap.size (.slice s1 n1 D6) tx rfl HO3.out (some ⟨w2.heap.size,0,none⟩) 16 16 tg rfl HG3.out (by rw [TXL.out];omega) HB3.out.below.size ?_;intro v4 w4 ho4 hg4 hn4 ha4;have hw4:=aZ HO3.out hg4 HB3.out.below HB3.out.below.size;have HO4:=abC ho4;have HW4:=abC hw4;clear ho4 hg4 hn4 ha4 hw4))
 go_ret
 exact ⟨_,rfl,HO4.out,HW4.out⟩
end Go.Proofs.YthdgbgleklkaiaaGreatDoor.Ae
namespace Go.Proofs.YthdgbgleklkaiaaGreatDoor.Im
open Go.RowKit Lm Po Ch Ae
def Le (v i:Int):Bool:=decide (0≤v∧v≤2147483647∧0≤i∧i < 32)
def iK (i:Int):List Int:=abD 4 0 ++ jE i
theorem wT (i:Int):(iK i).length=12:=by rw [iK,List.length_append,List.length_replicate,iy]
theorem CS (i:Int):bytes (iK i):=bytes_append (qh 4) (kT i)
def l9 (v:Int):Bool:=decide (0≤v∧v≤2147483647)
theorem gX (v:Int) (w:World):Calls Tryz.prog 87 #[.int .i64 v] w fun e w'=>e = .returned (.bool (l9 v))∧w=w':=by
 unfold l9
 by_cases h1:0≤v
 ·by_cases h2:v≤2147483647
  ·rw [decide_eq_true ⟨h1,h2⟩]
   go_enter Tryz.func87, Tryz.ntmps87
   go_wp2
   go_ret
   exact ⟨rfl,rfl⟩
  ·rw [decide_eq_false (fun h=>h2 h.2)]
   have h2':2147483647 < v:=by omega
   go_enter Tryz.func87, Tryz.ntmps87
   go_wp2
   go_ret
   exact ⟨rfl,rfl⟩
 ·rw [decide_eq_false (fun h=>h1 h.1)]
  have h1':v < 0:=by omega
  go_enter Tryz.func87, Tryz.ntmps87
  go_wp2
  go_ret
  exact ⟨rfl,rfl⟩
theorem zero12 (w:World):(zeroValue 135).run Tryz.prog w = .ok (.agg (arr .u8 (abD 12 0))) w:=by kernel_rfl
theorem JR (xs:List Int) (hl:xs.length=12):(Tryz.prog.info? 135).map (·.size)=some (arr .u8 xs).size:=by rw [aD,hl];exact uR
end Go.Proofs.YthdgbgleklkaiaaGreatDoor.Im
namespace Go.Proofs.YthdgbgleklkaiaaGreatDoor.Im
open Go.RowKit Lm Po Ch Ae
theorem RY {w:World} {sa:Option Addr} {n:Nat} {xs:List Int} (h:Src w sa n xs) (hp:0 < n):∃ ad,sa=some ad∧∀ j v,(xs.map (Value.int .u8))[j]? = some v→w.cell? (ad.add j)=some v:=by
 obtain ⟨ad,rfl, -⟩:=h.cell 0 hp
 refine ⟨ad,rfl,fun j v hv=>?_⟩
 have hj:j < xs.length:=by
  by_cases h:j < xs.length
  ·exact h
  ·rw [abG,List.getElem?_eq_none (by omega)] at hv;cases hv
 obtain ⟨a,ha,hc⟩:=h.cell j (by have:=h.len;omega)
 injection ha with ha
 subst ha
 rw [hc]
 rw [abG,List.getElem?_eq_getElem hj] at hv
 simp [List.getD,hj] at hv ⊢
 exact hv
theorem _root_.Go.Proofs.YthdgbgleklkaiaaGreatDoor.Kept.spl {G:Nat} {a b c:World} (h:Kept (fun x=>x=G) a b) (k:Below G b c) (hs:a.heap.size=G+1):Kept (fun x=>x=G) a c :=
 ⟨k.os.trans h.os,k.tape.trans h.tape,k.output.trans h.output,Nat.le_trans h.size k.size,fun i hi ht=>(k.block i (by have:i≠G:=ht;omega)).trans (h.block i hi ht)⟩
theorem RZ (x:Int):(splice ((abD 12 (0:Int)).map (Value.int .u8)) 4 ((jE x).map (Value.int .u8))).toArray=arr .u8 (iK x):=by
 rfl
theorem KO (i:Int) (w:World) (hi : -9223372036854775808≤i∧i≤9223372036854775807):Calls Tryz.prog 88 #[.int .i64 i] w fun e w'=>e = .returned (.agg (arr .u8 (iK i)))∧Below w.heap.size w w':=by
 obtain ⟨zs,hzs⟩:∃ zs:List Int,zs=abD 12 0:=⟨_,rfl⟩
 have hz:∀ w,(zeroValue 135).run Tryz.prog w = .ok (.agg (arr .u8 zs)) w:=by intro w;rw [hzs];exact zero12 w
 have hzl:zs.length=12:=by rw [hzs];rfl
 have M:=fun w=>gq i w hi
 have hsp:=RZ i
 rw [← hzs] at hsp
 have hbl:=iy i
 obtain ⟨b8,CK⟩:∃ x,x=jE i:=⟨_,rfl⟩
 rw [← CK] at hsp hbl M
 obtain ⟨nn,hnn⟩:∃ x,x=iK i:=⟨_,rfl⟩
 have hnl:nn.length=12:=by rw [hnn,wT]
 rw [← hnn] at hsp ⊢
 have hco:∀ v∈b8.map (Value.int .u8),v.oneCell'=true:=by
  intro v hv
  obtain ⟨x, -, rfl⟩:=List.mem_map.1 hv
  rfl
 have hr0:((w.alloc (.cells (arr .u8 zs) 135)).alloc (.cells (arr .u8 zs) 135)).heap[w.heap.size]? = some (.cells (arr .u8 zs) 135 (0,0)):=aY (aH w _) _
 have hr1:((w.alloc (.cells (arr .u8 zs) 135)).alloc (.cells (arr .u8 zs) 135)).heap[w.heap.size+1]? = some (.cells (arr .u8 zs) 135 (0,0)):=by have:=aH (w.alloc (.cells (arr .u8 zs) 135)) (.cells (arr .u8 zs) 135);rwa [World.size_alloc] at this
 have hb0:Below w.heap.size w ((w.alloc (.cells (arr .u8 zs) 135)).alloc (.cells (arr .u8 zs) 135)):=((Below.refl _ w).alloc (abF _) _).alloc (by simp) _
 have hsz:((w.alloc (.cells (arr .u8 zs) 135)).alloc (.cells (arr .u8 zs) 135)).heap.size=w.heap.size+1+1:=by rw [World.size_alloc,World.size_alloc]
 have Bv:=abC hsz
 have HZ:=abC hz
 have uz:=abC hzl
 have HM:=abC M
 have HSP:=abC hsp
 have qM:=abC hbl
 have uL:=abC hnl
 have HCO:=abC hco
 have Cm:=abC hr0
 have HR1:=abC hr1
 have HW:=abC hb0
 clear hz hzl M hsp hbl hnl hco hr0 hr1 hb0 hzs CK hnn hi hsz
 go_enter Tryz.func88, Tryz.ntmps88
 go_upto_region 2 with (first|((with_reducible refine aS 2 ?_);refine ah rfl 135 rfl _ (HZ.out _) ?_)|((with_reducible refine aS 3 ?_);refine ah rfl 135 rfl _ (HZ.out _) ?_;go_simp))
 (try simp only [World.size_alloc])
 generalize ((w.alloc (.cells (arr .u8 zs) 135)).alloc (.cells (arr .u8 zs) 135))=wq at Cm HR1 HW Bv ⊢
 have HB0:=abC ((Kept.refl (fun x=>x=w.heap.size+1) wq).drew)
 refine wp_region_held_drew (S:=(fun w'=>Kept (fun x=>x=w.heap.size+1) wq w')) (by kernel_rfl) (HB0.out) (fun hHeld=>?_)
 refine pT 0 ⟨some 4,_,_,_,_,none⟩ (?v1) ?_
 (try simp only [Act.put,sA,sZ,sS])
 refine pT 1 ⟨some 5,_,_,_,_,none⟩ (?v2) ?_
 (try simp only [Act.put,sA,sZ,sS])
 refine pR 2 ⟨some 6,_,_,_,_,none⟩ (fun K hK=>?_)
 go_simp
 go_at_call 54
 refine (HM.out _).mono ?_
 rintro e w3 ⟨v2,rfl,ho2,hb3⟩
 have HB3:=abC (HB0.out.trans (Kept.of_below hb3))
 obtain ⟨s2,c2,hv2, -, -, hs2, -⟩:=ho2.form
 rw [qM.out] at hv2 hs2
 subst hv2
 have HS2:=abC hs2
 clear ho2 hs2
 have Cm:=abC (Below.blk hb3 Cm.out (aV Cm.out))
 have HR1:=abC (Below.blk hb3 HR1.out (aV HR1.out))
 clear hb3
 (try dsimp only)
 refine hK.out _ _ (HB3.out) (fun hHeld=>?_)
 clear hK K
 (try simp only [Act.put,sA,sZ,sS])
 refine pR 3 ⟨some 7,_,_,_,_,none⟩ (fun K hK=>?_)
 obtain ⟨ad,rfl,had⟩:=RY HS2.out (by decide)
 refine step_copy_splice rfl (.tmp 4) (.tmp 6) 22 22 rfl 5 Tryz.underlying22 nL (some ⟨w.heap.size+1,4,none⟩) (some ad) 8 8 8 c2 ?ch1 ?ch2 (w.heap.size+1) 4 (zs.map (Value.int .u8)) 135 HR1.out (b8.map (Value.int .u8)) (by rw [abE,qM.out];rfl) (fun _=>⟨rfl,ad,rfl,had⟩) (by rw [abE,abE,qM.out,uz.out];omega) HCO.out (w.heap.size+1) _ (Below.refl _ _) (abF _) ?_
 case ch1=>go_simp
 case ch2=>go_simp
 intro w4 hb4 hk4
 have J2:=abC (HB3.out.spl hk4 Bv.out)
 have ou:=J2
 have hb':=hb4.out
 rw [HSP.out] at hb'
 have HFIN:=abC hb'
 have HRZ:=abC (Below.blk hk4 Cm.out (by omega))
 clear hb4 hk4 hb' had
 refine hK.out _ _ (ou.out) (fun hHeld=>?_)
 clear hK K
 (try simp only [Act.put])
 refine wpAnyH_done (by kernel_rfl) ?_ _
 (try simp only [Exit.then])
 go_wp2_with (first|((with_reducible refine aS 8 ?_);refine aB rfl 135 _ rfl (w.heap.size+1) 0 _ 135 (0,0) _ HFIN.out rfl .u8 nn (aj _ _) Tryz.underlying135 rfl (by rw [uL.out];exact uR) ?_)|((with_reducible show wpList _ _ _ (Oper.mk none _ _ _ _ _ :: _) _ _);refine au rfl 135 _ _ rfl w.heap.size _ _ 135 HRZ.out rfl rfl (by rw [aD,aD,uL.out,uz.out]) (JR nn uL.out) (ak _ _) ?_;intro w3 hb3 hk3 hz3;have HR3:=abC hb3;have HB3:=abC ((HW.out.trans (J2.out.toBelow HW.out.size (by rintro i rfl;omega))).trans (hk3.toBelow (Nat.le_trans HW.out.size (J2.out.size)) (by rintro i rfl;exact abF _)));clear hb3 hk3 hz3))
 (try simp only [Exit.inBlock,Exit.then])
 refine bodyPost_ret (results_cell_row rfl _ _ w.heap.size 135 _ (0,0) _ rfl HR3.out Tryz.underlying135 rfl (JR nn uL.out)) rfl ?_
 exact ⟨rfl,HB3.out⟩
end Go.Proofs.YthdgbgleklkaiaaGreatDoor.Im
namespace Go.Proofs.YthdgbgleklkaiaaGreatDoor.Bk
open Go.RowKit
theorem Np (p:Nat) (sa:Option Addr) (n c k:Nat) (bad:Bool) (w:World) (h1:w.heap[p]? = some (.cells #[.slice sa n c, .int .i64 (k:Int), .bool bad] 86 (0,0))) :
  Calls Tryz.prog 50 #[.pointer (some ⟨p,0,none⟩)] w fun e w'=>e = .returned (.bool (!bad && decide (k=n)))∧Below w.heap.size w w':=by
 have c0:w.cell? ⟨p,0,none⟩=some (.slice sa n c):=aF h1 0
 have c1:w.cell? ⟨p,1,none⟩=some (.int .i64 (k:Int)):=aF h1 1
 have c2:w.cell? ⟨p,2,none⟩=some (.bool bad):=aF h1 2
 clear h1
 cases bad with
 | true =>
  go_enter Tryz.func50, Tryz.ntmps50
  go_upto_region 1 with fail
  refine wp_region_held_drew (S:=fun u=>u.cell? ⟨p,0,none⟩=some (.slice sa n c)∧u.cell? ⟨p,1,none⟩=some (.int .i64 (k:Int))∧u.cell? ⟨p,2,none⟩=some (.bool true)) (by kernel_rfl) (⟨c0,c1,c2⟩) (fun hHeld=>?_)
  refine pT 0 ⟨some 3,_,_,_,_,none⟩ (.pointer (some ⟨p,0,none⟩)) ?_
  (try simp only [Act.put,sA,sZ,sS])
  refine pT 1 ⟨some 4,_,_,_,_,none⟩ (.pointer (some ⟨p,0,none⟩)) ?_
  (try simp only [Act.put,sA,sZ,sS])
  refine pT 2 ⟨some 5,_,_,_,_,none⟩ (.pointer (some ⟨p,2,none⟩)) ?_
  (try simp only [Act.put,sA,sZ,sS])
  refine wpAnyH_take (i:=3) (oi:=(⟨some 6,_,_,_,_,none⟩:Oper)) (v := .bool true) rfl (by kernel_rfl) (by kernel_rfl) (by kernel_rfl) (fun _ _ _ h=>h) (Or.inl ⟨by rfl,?hy104⟩) (by assumption) ?Fh
  case hy104=>(intro u aR;(try dsimp only at aR);obtain ⟨k0,k1,k2⟩:=aR;go_simp;try (with_reducible rfl))
  (try simp only [Act.put,sA,sZ,sS])
  refine pT 4 ⟨some 7,_,_,_,_,none⟩ (.bool false) ?_
  (try simp only [Act.put,sA,sZ,sS])
  refine pT 5 ⟨some 8,_,_,_,_,none⟩ (.bool false) ?_
  (try simp only [Act.put,sA,sZ,sS])
  refine wpAnyH_take (i:=6) (oi:=(⟨some 9,_,_,_,_,_⟩:Oper)) (v:=undef) rfl (by kernel_rfl) (by kernel_rfl) (by kernel_rfl) (fun _ _ _ h=>h) (Or.inr ⟨by rfl,rfl⟩) (by assumption) ?_
  (try simp only [Act.put,sA,sZ,sS])
  refine wpAnyH_take (i:=7) (oi:=(⟨some 10,_,_,_,_,_⟩:Oper)) (v:=undef) rfl (by kernel_rfl) (by kernel_rfl) (by kernel_rfl) (fun _ _ _ h=>h) (Or.inr ⟨by rfl,rfl⟩) (by assumption) ?_
  (try simp only [Act.put,sA,sZ,sS])
  refine wpAnyH_take (i:=8) (oi:=(⟨some 11,_,_,_,_,_⟩:Oper)) (v:=undef) rfl (by kernel_rfl) (by kernel_rfl) (by kernel_rfl) (fun _ _ _ h=>h) (Or.inr ⟨by rfl,rfl⟩) (by assumption) ?_
  (try simp only [Act.put,sA,sZ,sS])
  refine wpAnyH_take (i:=9) (oi:=(⟨some 12,_,_,_,_,_⟩:Oper)) (v:=undef) rfl (by kernel_rfl) (by kernel_rfl) (by kernel_rfl) (fun _ _ _ h=>h) (Or.inr ⟨by rfl,rfl⟩) (by assumption) ?_
  (try simp only [Act.put,sA,sZ,sS])
  refine wpAnyH_take (i:=10) (oi:=(⟨some 13,_,_,_,_,_⟩:Oper)) (v:=undef) rfl (by kernel_rfl) (by kernel_rfl) (by kernel_rfl) (fun _ _ _ h=>h) (Or.inr ⟨by rfl,rfl⟩) (by assumption) ?_
  (try simp only [Act.put,sA,sZ,sS])
  refine wpAnyH_take (i:=11) (oi:=(⟨some 14,_,_,_,_,_⟩:Oper)) (v:=undef) rfl (by kernel_rfl) (by kernel_rfl) (by kernel_rfl) (fun _ _ _ h=>h) (Or.inr ⟨by rfl,rfl⟩) (by assumption) ?_
  (try simp only [Act.put,sA,sZ,sS])
  refine wpAnyH_take (i:=12) (oi:=(⟨some 15,_,_,_,_,_⟩:Oper)) (v:=undef) rfl (by kernel_rfl) (by kernel_rfl) (by kernel_rfl) (fun _ _ _ h=>h) (Or.inr ⟨by rfl,rfl⟩) (by assumption) ?_
  (try simp only [Act.put,sA,sZ,sS])
  refine wpAnyH_take (i:=13) (oi:=(⟨some 16,_,_,_,_,_⟩:Oper)) (v:=undef) rfl (by kernel_rfl) (by kernel_rfl) (by kernel_rfl) (fun _ _ _ h=>h) (Or.inr ⟨by rfl,rfl⟩) (by assumption) ?_
  (try simp only [Act.put,sA,sZ,sS])
  refine wpAnyH_take (i:=14) (oi:=(⟨some 17,_,_,_,_,_⟩:Oper)) (v:=undef) rfl (by kernel_rfl) (by kernel_rfl) (by kernel_rfl) (fun _ _ _ h=>h) (Or.inr ⟨by rfl,rfl⟩) (by assumption) ?_
  (try simp only [Act.put,sA,sZ,sS])
  refine wpAnyH_take (i:=15) (oi:=(⟨some 18,_,_,_,_,_⟩:Oper)) (v:=undef) rfl (by kernel_rfl) (by kernel_rfl) (by kernel_rfl) (fun _ _ _ h=>h) (Or.inr ⟨by rfl,rfl⟩) (by assumption) ?_
  (try simp only [Act.put,sA,sZ,sS])
  refine pT 16 ⟨some 19,_,_,_,_,none⟩ (.bool false) ?_
  (try simp only [Act.put,sA,sZ,sS])
  refine pT 17 ⟨some 2,_,_,_,_,none⟩ (.bool false) ?_
  (try simp only [Act.put,sA,sZ,sS])
  refine wpAnyH_done (by kernel_rfl) ?_ _
  (try simp only [Exit.then])
  go_wp2_with fail
  go_ret
  exact ⟨rfl,(Below.refl _ w).drew⟩
 | false =>
  by_cases hkn:k=n
  ·rw [decide_eq_true hkn]
   have hz:((k:Int) == (n:Int))=true:=by rw [hkn];exact beq_self_eq_true _
   clear hkn
   go_enter Tryz.func50, Tryz.ntmps50
   go_upto_region 1 with fail
   refine wp_region_held_drew (S:=fun u=>u.cell? ⟨p,0,none⟩=some (.slice sa n c)∧u.cell? ⟨p,1,none⟩=some (.int .i64 (k:Int))∧u.cell? ⟨p,2,none⟩=some (.bool false)) (by kernel_rfl) (⟨c0,c1,c2⟩) (fun hHeld=>?_)
   refine pT 0 ⟨some 3,_,_,_,_,none⟩ (.pointer (some ⟨p,0,none⟩)) ?_
   (try simp only [Act.put,sA,sZ,sS])
   refine pT 1 ⟨some 4,_,_,_,_,none⟩ (.pointer (some ⟨p,0,none⟩)) ?_
   (try simp only [Act.put,sA,sZ,sS])
   refine pT 2 ⟨some 5,_,_,_,_,none⟩ (.pointer (some ⟨p,2,none⟩)) ?_
   (try simp only [Act.put,sA,sZ,sS])
   refine wpAnyH_take (i:=3) (oi:=(⟨some 6,_,_,_,_,none⟩:Oper)) (v := .bool false) rfl (by kernel_rfl) (by kernel_rfl) (by kernel_rfl) (fun _ _ _ h=>h) (Or.inl ⟨by rfl,?hy112⟩) (by assumption) ?PY
   case hy112=>(intro u aR;(try dsimp only at aR);obtain ⟨k0,k1,k2⟩:=aR;go_simp;try (with_reducible rfl))
   (try simp only [Act.put,sA,sZ,sS])
   refine pT 4 ⟨some 7,_,_,_,_,none⟩ (.bool true) ?_
   (try simp only [Act.put,sA,sZ,sS])
   refine pT 5 ⟨some 8,_,_,_,_,none⟩ (.bool true) ?_
   (try simp only [Act.put,sA,sZ,sS])
   refine pT 6 ⟨some 9,_,_,_,_,_⟩ (.pointer (some ⟨p,0,none⟩)) ?_
   (try simp only [Act.put,sA,sZ,sS])
   refine pT 7 ⟨some 10,_,_,_,_,_⟩ (.pointer (some ⟨p,0,none⟩)) ?_
   (try simp only [Act.put,sA,sZ,sS])
   refine pT 8 ⟨some 11,_,_,_,_,_⟩ (.pointer (some ⟨p,1,none⟩)) ?_
   (try simp only [Act.put,sA,sZ,sS])
   refine wpAnyH_take (i:=9) (oi:=(⟨some 12,_,_,_,_,_⟩:Oper)) (v := .int .i64 (k:Int)) rfl (by kernel_rfl) (by kernel_rfl) (by kernel_rfl) (fun _ _ _ h=>h) (Or.inl ⟨by rfl,?Au⟩) (by assumption) ?yj
   case Au=>(intro u aR;(try dsimp only at aR);obtain ⟨k0,k1,k2⟩:=aR;go_simp;try (with_reducible rfl))
   (try simp only [Act.put,sA,sZ,sS])
   refine pT 10 ⟨some 13,_,_,_,_,_⟩ (.pointer (some ⟨p,0,none⟩)) ?_
   (try simp only [Act.put,sA,sZ,sS])
   refine pT 11 ⟨some 14,_,_,_,_,_⟩ (.pointer (some ⟨p,0,none⟩)) ?_
   (try simp only [Act.put,sA,sZ,sS])
   refine pT 12 ⟨some 15,_,_,_,_,_⟩ (.pointer (some ⟨p,0,none⟩)) ?_
   (try simp only [Act.put,sA,sZ,sS])
   refine wpAnyH_take (i:=13) (oi:=(⟨some 16,_,_,_,_,_⟩:Oper)) (v := .slice sa n c) rfl (by kernel_rfl) (by kernel_rfl) (by kernel_rfl) (fun _ _ _ h=>h) (Or.inl ⟨by rfl,?Ao⟩) (by assumption) ?EX
   case Ao=>(intro u aR;(try dsimp only at aR);obtain ⟨k0,k1,k2⟩:=aR;go_simp;try (with_reducible rfl))
   (try simp only [Act.put,sA,sZ,sS])
   refine pT 14 ⟨some 17,_,_,_,_,_⟩ (.int .i64 (n:Int)) ?_
   (try simp only [Act.put,sA,sZ,sS])
   refine wpAnyH_take (i:=15) (oi:=(⟨some 18,_,_,_,_,_⟩:Oper)) (v := .bool true) rfl (by kernel_rfl) (by kernel_rfl) (by kernel_rfl) (fun _ _ _ h=>h) (Or.inl ⟨by rfl,?Jk⟩) (by assumption) ?PW
   case Jk=>(intro u aR;(try dsimp only at aR);go_simp;(try rw [hz]);try (with_reducible rfl))
   (try simp only [Act.put,sA,sZ,sS])
   refine pT 16 ⟨some 19,_,_,_,_,none⟩ (.bool true) ?_
   (try simp only [Act.put,sA,sZ,sS])
   refine pT 17 ⟨some 2,_,_,_,_,none⟩ (.bool true) ?_
   (try simp only [Act.put,sA,sZ,sS])
   refine wpAnyH_done (by kernel_rfl) ?_ _
   (try simp only [Exit.then])
   go_wp2_with fail
   go_ret
   exact ⟨rfl,(Below.refl _ w).drew⟩
  ·rw [decide_eq_false hkn]
   have hz:((k:Int) == (n:Int))=false:=by rw [beq_eq_false_iff_ne];omega
   clear hkn
   go_enter Tryz.func50, Tryz.ntmps50
   go_upto_region 1 with fail
   refine wp_region_held_drew (S:=fun u=>u.cell? ⟨p,0,none⟩=some (.slice sa n c)∧u.cell? ⟨p,1,none⟩=some (.int .i64 (k:Int))∧u.cell? ⟨p,2,none⟩=some (.bool false)) (by kernel_rfl) (⟨c0,c1,c2⟩) (fun hHeld=>?_)
   refine pT 0 ⟨some 3,_,_,_,_,none⟩ (.pointer (some ⟨p,0,none⟩)) ?_
   (try simp only [Act.put,sA,sZ,sS])
   refine pT 1 ⟨some 4,_,_,_,_,none⟩ (.pointer (some ⟨p,0,none⟩)) ?_
   (try simp only [Act.put,sA,sZ,sS])
   refine pT 2 ⟨some 5,_,_,_,_,none⟩ (.pointer (some ⟨p,2,none⟩)) ?_
   (try simp only [Act.put,sA,sZ,sS])
   refine wpAnyH_take (i:=3) (oi:=(⟨some 6,_,_,_,_,none⟩:Oper)) (v := .bool false) rfl (by kernel_rfl) (by kernel_rfl) (by kernel_rfl) (fun _ _ _ h=>h) (Or.inl ⟨by rfl,?XW⟩) (by assumption) ?rest130
   case XW=>(intro u aR;(try dsimp only at aR);obtain ⟨k0,k1,k2⟩:=aR;go_simp;try (with_reducible rfl))
   (try simp only [Act.put,sA,sZ,sS])
   refine pT 4 ⟨some 7,_,_,_,_,none⟩ (.bool true) ?_
   (try simp only [Act.put,sA,sZ,sS])
   refine pT 5 ⟨some 8,_,_,_,_,none⟩ (.bool true) ?_
   (try simp only [Act.put,sA,sZ,sS])
   refine pT 6 ⟨some 9,_,_,_,_,_⟩ (.pointer (some ⟨p,0,none⟩)) ?_
   (try simp only [Act.put,sA,sZ,sS])
   refine pT 7 ⟨some 10,_,_,_,_,_⟩ (.pointer (some ⟨p,0,none⟩)) ?_
   (try simp only [Act.put,sA,sZ,sS])
   refine pT 8 ⟨some 11,_,_,_,_,_⟩ (.pointer (some ⟨p,1,none⟩)) ?_
   (try simp only [Act.put,sA,sZ,sS])
   refine wpAnyH_take (i:=9) (oi:=(⟨some 12,_,_,_,_,_⟩:Oper)) (v := .int .i64 (k:Int)) rfl (by kernel_rfl) (by kernel_rfl) (by kernel_rfl) (fun _ _ _ h=>h) (Or.inl ⟨by rfl,?XT⟩) (by assumption) ?rest136
   case XT=>(intro u aR;(try dsimp only at aR);obtain ⟨k0,k1,k2⟩:=aR;go_simp;try (with_reducible rfl))
   (try simp only [Act.put,sA,sZ,sS])
   refine pT 10 ⟨some 13,_,_,_,_,_⟩ (.pointer (some ⟨p,0,none⟩)) ?_
   (try simp only [Act.put,sA,sZ,sS])
   refine pT 11 ⟨some 14,_,_,_,_,_⟩ (.pointer (some ⟨p,0,none⟩)) ?_
   (try simp only [Act.put,sA,sZ,sS])
   refine pT 12 ⟨some 15,_,_,_,_,_⟩ (.pointer (some ⟨p,0,none⟩)) ?_
   (try simp only [Act.put,sA,sZ,sS])
   refine wpAnyH_take (i:=13) (oi:=(⟨some 16,_,_,_,_,_⟩:Oper)) (v := .slice sa n c) rfl (by kernel_rfl) (by kernel_rfl) (by kernel_rfl) (fun _ _ _ h=>h) (Or.inl ⟨by rfl,?XP⟩) (by assumption) ?rest140
   case XP=>(intro u aR;(try dsimp only at aR);obtain ⟨k0,k1,k2⟩:=aR;go_simp;try (with_reducible rfl))
   (try simp only [Act.put,sA,sZ,sS])
   refine pT 14 ⟨some 17,_,_,_,_,_⟩ (.int .i64 (n:Int)) ?_
   (try simp only [Act.put,sA,sZ,sS])
   refine wpAnyH_take (i:=15) (oi:=(⟨some 18,_,_,_,_,_⟩:Oper)) (v := .bool false) rfl (by kernel_rfl) (by kernel_rfl) (by kernel_rfl) (fun _ _ _ h=>h) (Or.inl ⟨by rfl,?XM⟩) (by assumption) ?rest142
   case XM=>(intro u aR;(try dsimp only at aR);go_simp;(try rw [hz]);try (with_reducible rfl))
   (try simp only [Act.put,sA,sZ,sS])
   refine pT 16 ⟨some 19,_,_,_,_,none⟩ (.bool false) ?_
   (try simp only [Act.put,sA,sZ,sS])
   refine pT 17 ⟨some 2,_,_,_,_,none⟩ (.bool false) ?_
   (try simp only [Act.put,sA,sZ,sS])
   refine wpAnyH_done (by kernel_rfl) ?_ _
   (try simp only [Exit.then])
   go_wp2_with fail
   go_ret
   exact ⟨rfl,(Below.refl _ w).drew⟩
end Go.Proofs.YthdgbgleklkaiaaGreatDoor.Bk
namespace Go.Proofs.YthdgbgleklkaiaaGreatDoor.Ce
open Go.RowKit Lm Fp Cu Sl Sc Bk
def qp (w:World) (p:Nat) (sa:Option Addr) (c:Nat) (xs:List Int) (k:Nat) (bad:Bool):Prop :=
 (∃ g off,sa=some ⟨g,off,none⟩∧vP w p g off c xs k bad)∨(xs=[]∧k=0∧w.heap[p]? = some (.cells #[.slice sa xs.length c, .int .i64 (k:Int), .bool bad] 86 (0,0)))
theorem qp.st {w:World} {p c k:Nat} {sa:Option Addr} {xs:List Int} {bad:Bool} (h:qp w p sa c xs k bad):w.heap[p]? = some (.cells #[.slice sa xs.length c, .int .i64 (k:Int), .bool bad] 86 (0,0)):=by
 rcases h with ⟨g,off,rfl,h⟩|⟨_,_,h⟩
 ·exact h.st
 ·exact h
theorem qp.below {w w':World} {p c k:Nat} {sa:Option Addr} {xs:List Int} {bad:Bool} (h:qp w p sa c xs k bad) (kk:Below w.heap.size w w'):qp w' p sa c xs k bad:=by
 rcases h with ⟨g,off,rfl,h⟩|⟨h1,h2,h⟩
 ·exact .inl ⟨g,off,rfl,h.below kk⟩
 ·exact .inr ⟨h1,h2,Below.blk kk h (aV h)⟩
theorem qp.kept {T:Nat→Prop} {w w':World} {p c k:Nat} {sa:Option Addr} {xs:List Int} {bad:Bool} (h:qp w p sa c xs k bad) (kk:Kept T w w') (hp:¬ T p) (hg:∀ a,sa=some a→¬ T a.block):qp w' p sa c xs k bad:=by
 rcases h with ⟨g,off,rfl,h⟩|⟨h1,h2,h⟩
 ·exact .inl ⟨g,off,rfl,h.kept kk hp (hg _ rfl)⟩
 ·exact .inr ⟨h1,h2,kk.blk h hp⟩
theorem DU (p:Nat) (sa:Option Addr) (c:Nat) (xs:List Int) (k:Nat) (bad:Bool) (n:Int) (w:World) (h:qp w p sa c xs k bad) (hl:xs.length≤1099511627776) (hn:0 < n) :
  Calls Tryz.prog 46 #[.pointer (some ⟨p,0,none⟩), .int .i64 n] w fun e w'=>∃ v,e = .returned v∧aU w' w.heap.size v (bX (xs.drop k) bad n)∧qp w' p sa c xs (k+(bX (xs.drop k) bad n).length) (!dR (xs.drop k) bad n)∧Kept (· = p) w w':=by
 rcases h with ⟨g,off,rfl,h⟩|⟨rfl,rfl,h⟩
 ·refine (ZF p g off c xs k bad n w h hl).mono ?_
  rintro e w' ⟨v,rfl,ho,hc,hk⟩
  exact ⟨v,rfl,ho, .inl ⟨g,off,rfl,hc⟩,hk⟩
 ·have hno:dR (([]:List Int).drop 0) bad n=false:=by
   rw [← Bool.not_eq_true,eu]
   simp
   omega
  have hv:bX (([]:List Int).drop 0) bad n=[]:=by rw [bX,hno];rfl
  rw [hv,hno]
  cases bad with
  | true =>
   refine (JG p sa c [] 0 n w h ⟨by decide,by decide⟩ hl).mono ?_
   rintro e w' ⟨rfl,h1,hk⟩
   exact ⟨_,rfl,aU.nil _ _, .inr ⟨rfl,rfl,h1⟩,hk⟩
  | false =>
   refine (DV p sa c [] 0 n w h ⟨by decide,by decide⟩ hl ⟨by omega,by simpa using hn⟩).mono ?_
   rintro e w' ⟨rfl,h1,hk⟩
   exact ⟨_,rfl,aU.nil _ _, .inr ⟨rfl,rfl,h1⟩,hk⟩
theorem TW (p:Nat) (sa:Option Addr) (c:Nat) (xs:List Int) (k:Nat) (bad:Bool) (w:World) (h:qp w p sa c xs k bad) (hl:xs.length≤1099511627776) (hx:bytes xs) :
  Calls Tryz.prog 47 #[.pointer (some ⟨p,0,none⟩)] w fun e w'=>e = .returned (.int .i64 (mq (xs.drop k) bad))∧qp w' p sa c xs (k+(bX (xs.drop k) bad 8).length) (!dR (xs.drop k) bad 8)∧Kept (· = p) w w' :=
 dint_of p (xs.drop k) bad (fun w'=>qp w' p sa c xs (k+(bX (xs.drop k) bad 8).length) (!dR (xs.drop k) bad 8)) w (fun x hx'=>hx x (List.mem_of_mem_drop hx')) (DU p sa c xs k bad 8 w h hl (by decide))
theorem Ww {zs:List Int} {bad:Bool} {n:Int} (h:dR zs bad n=true):zs.drop (bX zs bad n).length=mP zs bad n:=by
 obtain ⟨-, h1,h2⟩:=eu.1 h
 rw [bX,mP,if_pos h,if_pos h,List.length_take,Nat.min_eq_left (by omega)]
theorem tu (zs:List Int) (n:Int):bX zs true n=[]:=by
 rw [bX,if_neg (by simp [dR])]
theorem Xx (zs ys:List Int):mq zs true=mq ys true:=by rw [mq,mq,tu,tu]
theorem Dl (zs:List Int) (n:Int):dR zs true n=false:=by simp [dR]
structure DoR (w u:World) (sa:Option Addr) (c:Nat) (xs:List Int) (k:Nat) (bad:Bool):Prop where
 i:u.heap[w.heap.size]? = some (.cells (stopC 0 (abD 64 0)) 73 (0,0))
 c:qp u (w.heap.size+1) sa c xs k bad
 b:Below w.heap.size w u
theorem DoR.turn {w u u':World} {sa:Option Addr} {c k k':Nat} {xs:List Int} {bad bad':Bool} (h:DoR w u sa c xs k bad) (kk:Kept (· = w.heap.size+1) u u') (hc:qp u' (w.heap.size+1) sa c xs k' bad'):DoR w u' sa c xs k' bad' :=
 ⟨kk.blk h.i (by omega),hc,h.b.trans ⟨kk.os,kk.tape,kk.output,kk.size,fun i hi=>kk.block i (abI hi h.b.size) (by omega)⟩⟩
theorem DoR.fresh {w u u':World} {sa:Option Addr} {c k:Nat} {xs:List Int} {bad:Bool} (h:DoR w u sa c xs k bad) (kk:Below u.heap.size u u'):DoR w u' sa c xs k bad :=
 ⟨Below.blk kk h.i (aV h.i),h.c.below kk,h.b.trans (kk.mono h.b.size)⟩
theorem DoR.other {w u u':World} {sa:Option Addr} {c k g:Nat} {xs:List Int} {bad:Bool} (h:DoR w u sa c xs k bad) (kk:Kept (fun x=>x=g) u u') (hg:w.heap.size+1 < g) (ha:∀ a,sa=some a→a.block < g∨xs=[]):DoR w u' sa c xs k bad:=by
 refine ⟨kk.blk h.i (by omega),?_,h.b.trans ⟨kk.os,kk.tape,kk.output,kk.size,fun i hi=>kk.block i (abI hi h.b.size) (by omega)⟩⟩
 rcases h.c with ⟨gg,off,rfl,h1⟩|⟨h1,h2,h3⟩
 ·rcases ha _ rfl with h4|h4
  ·exact .inl ⟨gg,off,rfl,h1.kept kk (by omega) (by have:gg < g:=h4;omega)⟩
  ·subst h4
   have:=h1.le
   exact .inr ⟨rfl,by simpa using this,kk.blk h1.st (by omega)⟩
 ·exact .inr ⟨h1,h2,kk.blk h3 (by omega)⟩
end Go.Proofs.YthdgbgleklkaiaaGreatDoor.Ce
