/- aead.Seal and the document's. image.may, image.nonce, the document's small and nonce. The document's nonce of a block. image.Seal, image.Open and the document's. Condition: as each theorem says. -/
import Derived.Deep.CutBlock
import Derived.Laws.CopyOwn
import Derived.Laws.Cover3
import Derived.Lib.SlBytesConst
import Derived.Test.YthdgbgleklkaiaaDoorQa06
import Derived.Test.YthdgbgleklkaiaaDoorQa10
import Derived.Test.YthdgbgleklkaiaaDoorQa31
set_option linter.unusedSimpArgs false
set_option linter.unusedVariables false
set_option maxRecDepth 100000
set_option maxHeartbeats 16000000
namespace Go.Proofs.YthdgbgleklkaiaaDoor.Ae
open Go.RowKit Lm Po Ch
theorem src_arr {w:World} {g:Nat} {xs:List Int} {t:TypeId} {fr:Nat×Nat} (h:w.heap[g]? = some (.cells (arr .u8 xs) t fr)) (m:Nat) (hm:xs.length=m):Src w (some ⟨g,0,none⟩) m xs :=
 nu h (by rw [bQ,Nat.mul_one,List.take_of_length_le (by rw [List.length_map];exact Nat.le_refl _)]) hm
theorem Cg (key aK plain beside:List Int) (sp sb:Option Addr) (n1 n2 c1 c2:Nat) (w:World) (hk:key.length=32) (hn:aK.length=12) (bk:bytes key) (bn:bytes aK) (hp:Src w sp n1 plain) (hb:Src w sb n2 beside) (bb:bytes beside) (l1:n1≤137438953472) (l2:n2≤137438953472) :
  Calls Tryd.prog 53 #[.agg (arr .u8 key), .agg (arr .u8 aK), .slice sp n1 c1, .slice sb n2 c2] w fun e w'=>∃ v,e = .returned v∧aV w' w.heap.size v (lH key aK plain beside)∧Below w.heap.size w w':=by
 have hpl:=hp.len
 obtain ⟨zt,Bn⟩:∃ zs:List Int,zs=List.replicate 16 0:=⟨_,rfl⟩
 have hyt:∀ w,(zeroValue 122).run Tryd.prog w = .ok (.agg (arr .u8 zt)) w:=by intro w;rw [Bn];exact NU w
 have G7:zt.length=16:=by rw [Bn];rfl
 have M1:=fun w hs=>Qz sp n1 c1 plain key aK 1 w hs hk hn bk bn (by omega)
 obtain ⟨tx,htx⟩:∃ x,x=turn key 1 aK plain:=⟨_,rfl⟩
 have txl:tx.length=n1:=by rw [htx,yx,hpl]
 have txb:bytes tx:=by rw [htx];exact Ab _ _ _ _
 have M2:=fun sc c1 w (hc:Src w sc n1 tx) hb=>Un key aK tx beside sc sb n1 n2 c1 c2 w hk hn bk bn hc hb txb bb (by omega) (by omega)
 obtain ⟨tg,OX⟩:∃ x,x=tag key aK tx beside:=⟨_,rfl⟩
 have tgl:tg.length=16:=by rw [OX,xK]
 have hse:tx ++ tg=lH key aK plain beside:=by rw [lH,← htx,← OX]
 rw [← htx] at M1
 rw [← OX] at M2
 rw [← hse]
 have S0:=B2.start w (arr .u8 key) (arr .u8 aK) 23 108
 have bN:=Lib.hid S0
 have HK:=Lib.hid hk
 have HN:=Lib.hid hn
 have HP:=Lib.hid (hp.below S0.below)
 have HB:=Lib.hid (hb.below S0.below)
 have HYT:=Lib.hid hyt
 have HZT:=Lib.hid G7
 have F5:=Lib.hid M1
 have PD:=Lib.hid M2
 have TXL:=Lib.hid txl
 have SI:=Lib.hid tgl
 clear S0 hk hn hp hb hpl hyt G7 M1 M2 txl tgl Bn htx txb OX hse bk bn bb
 go_enter Tryd.func53, Tryd.ntmps53
 go_wp2_with (first|((with_reducible refine aS 11 ?_);refine ak rfl 23 _ rfl w.heap.size 0 _ 23 (0,0) _ bN.out.b0 rfl .u8 key (au _ _) Tryd.underlying23 rfl (by rw [HK.out];exact qV) ?_)|((with_reducible refine aS 12 ?_);refine ak rfl 108 _ rfl (w.heap.size+1) 0 _ 108 (0,0) _ bN.out.b1 rfl .u8 aK (au _ _) Tryd.underlying108 rfl (by rw [HN.out];exact uT) ?_)|((with_reducible show Calls _ _ #[_, .int _ _,_,_] _ _);go_at_call 72; refine (F5.out _ HP.out).mono ?_;rintro e w1 ⟨v1,rfl,ho1,hbw⟩;have HB1:=Lib.hid (bN.out.after hbw);obtain ⟨s1,sH,hv1, -, -, hs1, -⟩:=ho1.form;rw [TXL.out] at hv1 hs1;subst hv1;have Sz:=Lib.hid ho1;have HX1:=Lib.hid hs1;have HBS:=Lib.hid (HB.out.below hbw);have hsz1:w.heap.size≤w1.heap.size:=HB1.out.below.size;clear hbw ho1 hs1)|((with_reducible refine aS 15 ?_);refine ak rfl 23 _ rfl w.heap.size 0 _ 23 (0,0) _ HB1.out.b0 rfl .u8 key (au _ _) Tryd.underlying23 rfl (by rw [HK.out];exact qV) ?_)|((with_reducible refine aS 16 ?_);refine ak rfl 108 _ rfl (w.heap.size+1) 0 _ 108 (0,0) _ HB1.out.b1 rfl .u8 aK (au _ _) Tryd.underlying108 rfl (by rw [HN.out];exact uT) ?_)|((with_reducible show Calls _ _ _ w1 _);go_at_call 73; refine (PD.out s1 sH w1 HX1.out HBS.out).mono ?_;rintro e w2 ⟨rfl,hbw⟩;have HB2:=Lib.hid (HB1.out.after hbw);have BM:=Lib.hid (Sz.out.below hbw);clear hbw)|((with_reducible refine aS 10 ?_);refine aj rfl 122 rfl _ (HYT.out _) ?_;go_simp)|((with_reducible refine aT 10 ?_);refine ah rfl 122 _ _ rfl w2.heap.size _ _ 122 (aL _ _) rfl rfl (by rw [aF,aF,SI.out,HZT.out]) (Mg tg SI.out) (av _ _) ?_;intro w3 hb3 hk3 hz3;have hl3:=aR HB2.out.b1;have HB3:=Lib.hid ((HB2.out.alloc (.cells (arr .u8 zt) 122)).Ry hk3 (by rintro i rfl;omega));have HG3:=Lib.hid (src_arr hb3 16 SI.out);have HO3:=Lib.hid (((BM.out.alloc (.cells (arr .u8 zt) 122)).kept hk3 (fun g hg e=>by have:=(BM.out.lt g hg).2;omega)).mono (B':=w.heap.size) (by simp;omega));clear hb3 hk3 hz3)|((with_reducible refine aS 22 ?_);refine aO rfl _ _ rfl w.heap.size (.slice s1 n1 sH) tx rfl HO3.out (some ⟨w2.heap.size,0,none⟩) 16 16 tg rfl HG3.out (by rw [TXL.out];omega) HB3.out.below.size ?_;intro v4 w4 ho4 hg4 hn4 ha4;have hw4:=aQ HO3.out hg4 HB3.out.below HB3.out.below.size;have HO4:=Lib.hid ho4;have HW4:=Lib.hid hw4;clear ho4 hg4 hn4 ha4 hw4))
 go_ret
 exact ⟨_,rfl,HO4.out,HW4.out⟩
end Go.Proofs.YthdgbgleklkaiaaDoor.Ae
namespace Go.Proofs.YthdgbgleklkaiaaDoor.Im
open Go.RowKit Lm Po Ch Ae
def JZ (v i:Int):Bool:=decide (0≤v∧v≤2147483647∧0≤i∧i < 32)
def iE (i:Int):List Int:=List.replicate 4 0 ++ jo i
theorem wL (i:Int):(iE i).length=12:=by rw [iE,List.length_append,List.length_replicate,gW]
theorem BH (i:Int):bytes (iE i):=bytes_append (pQ 4) (kP i)
def lT (v:Int):Bool:=decide (0≤v∧v≤2147483647)
theorem gM (v:Int) (w:World):Calls Tryd.prog 25 #[.int .i64 v] w fun e w'=>e = .returned (.bool (lT v))∧w=w':=by
 unfold lT
 by_cases h1:0≤v
 ·by_cases h2:v≤2147483647
  ·rw [decide_eq_true ⟨h1,h2⟩]
   go_enter Tryd.func25, Tryd.ntmps25
   go_wp2
   go_ret
   exact ⟨rfl,rfl⟩
  ·rw [decide_eq_false (fun h=>h2 h.2)]
   have h2':2147483647 < v:=by omega
   go_enter Tryd.func25, Tryd.ntmps25
   go_wp2
   go_ret
   exact ⟨rfl,rfl⟩
 ·rw [decide_eq_false (fun h=>h1 h.1)]
  have h1':v < 0:=by omega
  go_enter Tryd.func25, Tryd.ntmps25
  go_wp2
  go_ret
  exact ⟨rfl,rfl⟩
theorem zero12 (w:World):(zeroValue 108).run Tryd.prog w = .ok (.agg (arr .u8 (List.replicate 12 0))) w:=by kernel_rfl
theorem Iu (xs:List Int) (hl:xs.length=12):(Tryd.prog.info? 108).map (·.size)=some (arr .u8 xs).size:=by rw [aF,hl];exact uT
end Go.Proofs.YthdgbgleklkaiaaDoor.Im
namespace Go.Proofs.YthdgbgleklkaiaaDoor.Im
open Go.RowKit Lm Po Ch Ae
theorem Qr {w:World} {sa:Option Addr} {n:Nat} {xs:List Int} (h:Src w sa n xs) (hp:0 < n):∃ ad,sa=some ad∧∀ j v,(xs.map (Value.int .u8))[j]? = some v→w.cell? (ad.add j)=some v:=by
 obtain ⟨ad,rfl, -⟩:=h.cell 0 hp
 refine ⟨ad,rfl,fun j v hv=>?_⟩
 have hj:j < xs.length:=by
  by_cases h:j < xs.length
  ·exact h
  ·rw [List.getElem?_map,List.getElem?_eq_none (by omega)] at hv;cases hv
 obtain ⟨a,ha,hc⟩:=h.cell j (by have:=h.len;omega)
 injection ha with ha
 subst ha
 rw [hc]
 rw [List.getElem?_map,List.getElem?_eq_getElem hj] at hv
 simp [List.getD,hj] at hv ⊢
 exact hv
theorem _root_.Go.Proofs.YthdgbgleklkaiaaDoor.Kept.spl {G:Nat} {a b c:World} (h:Kept (fun x=>x=G) a b) (k:Below G b c) (hs:a.heap.size=G+1):Kept (fun x=>x=G) a c :=
 ⟨k.os.trans h.os,k.tape.trans h.tape,k.output.trans h.output,Nat.le_trans h.size k.size,fun i hi ht=>(k.block i (by have:i≠G:=ht;omega)).trans (h.block i hi ht)⟩
theorem Qs (x:Int):(splice ((List.replicate 12 (0:Int)).map (Value.int .u8)) 4 ((jo x).map (Value.int .u8))).toArray=arr .u8 (iE x):=by
 rfl
theorem JG (i:Int) (w:World) (hi : -9223372036854775808≤i∧i≤9223372036854775807):Calls Tryd.prog 59 #[.int .i64 i] w fun e w'=>e = .returned (.agg (arr .u8 (iE i)))∧Below w.heap.size w w':=by
 obtain ⟨zs,hzs⟩:∃ zs:List Int,zs=List.replicate 12 0:=⟨_,rfl⟩
 have hz:∀ w,(zeroValue 108).run Tryd.prog w = .ok (.agg (arr .u8 zs)) w:=by intro w;rw [hzs];exact zero12 w
 have hzl:zs.length=12:=by rw [hzs];rfl
 have M:=fun w=>fO i w hi
 have hsp:=Qs i
 rw [← hzs] at hsp
 have hbl:=gW i
 obtain ⟨b8,jH⟩:∃ x,x=jo i:=⟨_,rfl⟩
 rw [← jH] at hsp hbl M
 obtain ⟨nn,hnn⟩:∃ x,x=iE i:=⟨_,rfl⟩
 have hnl:nn.length=12:=by rw [hnn,wL]
 rw [← hnn] at hsp ⊢
 have hco:∀ v∈b8.map (Value.int .u8),v.oneCell'=true:=by
  intro v hv
  obtain ⟨x, -, rfl⟩:=List.mem_map.1 hv
  rfl
 have hr0:((w.alloc (.cells (arr .u8 zs) 108)).alloc (.cells (arr .u8 zs) 108)).heap[w.heap.size]? = some (.cells (arr .u8 zs) 108 (0,0)):=bf (aL w _) _
 have hr1:((w.alloc (.cells (arr .u8 zs) 108)).alloc (.cells (arr .u8 zs) 108)).heap[w.heap.size+1]? = some (.cells (arr .u8 zs) 108 (0,0)):=by have:=aL (w.alloc (.cells (arr .u8 zs) 108)) (.cells (arr .u8 zs) 108);rwa [World.size_alloc] at this
 have hb0:Below w.heap.size w ((w.alloc (.cells (arr .u8 zs) 108)).alloc (.cells (arr .u8 zs) 108)):=((Below.refl _ w).alloc (Nat.le_refl _) _).alloc (by simp) _
 have hsz:((w.alloc (.cells (arr .u8 zs) 108)).alloc (.cells (arr .u8 zs) 108)).heap.size=w.heap.size+1+1:=by rw [World.size_alloc,World.size_alloc]
 have wS:=Lib.hid hsz
 have HZ:=Lib.hid hz
 have uD:=Lib.hid hzl
 have HM:=Lib.hid M
 have HSP:=Lib.hid hsp
 have sD:=Lib.hid hbl
 have xI:=Lib.hid hnl
 have HCO:=Lib.hid hco
 have IE:=Lib.hid hr0
 have HR1:=Lib.hid hr1
 have HW:=Lib.hid hb0
 clear hz hzl M hsp hbl hnl hco hr0 hr1 hb0 hzs jH hnn hi hsz
 go_enter Tryd.func59, Tryd.ntmps59
 go_upto_region 2 with (first|((with_reducible refine aS 2 ?_);refine aj rfl 108 rfl _ (HZ.out _) ?_)|((with_reducible refine aS 3 ?_);refine aj rfl 108 rfl _ (HZ.out _) ?_;go_simp))
 (try simp only [World.size_alloc])
 generalize ((w.alloc (.cells (arr .u8 zs) 108)).alloc (.cells (arr .u8 zs) 108))=wq at IE HR1 HW wS ⊢
 have HB0:=Lib.hid ((Kept.refl (fun x=>x=w.heap.size+1) wq).drew)
 refine wp_region_held_drew (S:=(fun w'=>Kept (fun x=>x=w.heap.size+1) wq w')) (by kernel_rfl) (HB0.out) (fun hHeld=>?_)
 refine wpAnyH_take (i:=0) (oi:=(⟨some 4,_,_,_,_,none⟩:Oper)) (v:=?v1) rfl (by kernel_rfl) (by kernel_rfl) (by kernel_rfl) (fun _ _ _ h=>h) (Or.inl ⟨by rfl,?hy1⟩) (by assumption) ?rest1
 case hy1=>(intro w hSw;(try dsimp only at hSw);go_simp;try (with_reducible rfl))
 (try simp only [Act.put,sA,sZ,sS])
 refine wpAnyH_take (i:=1) (oi:=(⟨some 5,_,_,_,_,none⟩:Oper)) (v:=?v2) rfl (by kernel_rfl) (by kernel_rfl) (by kernel_rfl) (fun _ _ _ h=>h) (Or.inl ⟨by rfl,?hy2⟩) (by assumption) ?rest2
 case hy2=>(intro w hSw;(try dsimp only at hSw);go_simp;try (with_reducible rfl))
 (try simp only [Act.put,sA,sZ,sS])
 refine wpAnyH_ready (rs:=[2]) (by kernel_rfl) (by simp) ?_
 refine AllReadyH.cons (o:=(⟨some 6,_,_,_,_,none⟩:Oper)) rfl (fun K hK=>?_) AllReadyH.nil
 go_simp
 go_at_call 30
 refine (HM.out _).mono ?_
 rintro e w3 ⟨v2,rfl,ho2,hb3⟩
 have HB3:=Lib.hid (HB0.out.trans (Kept.of_below hb3))
 obtain ⟨s2,c2,hv2, -, -, hs2, -⟩:=ho2.form
 rw [sD.out] at hv2 hs2
 subst hv2
 have HS2:=Lib.hid hs2
 clear ho2 hs2
 have IE:=Lib.hid (Below.blk hb3 IE.out (aR IE.out))
 have HR1:=Lib.hid (Below.blk hb3 HR1.out (aR HR1.out))
 clear hb3
 (try dsimp only)
 refine hK.out _ _ (HB3.out) (fun hHeld=>?_)
 clear hK K
 (try simp only [Act.put,sA,sZ,sS])
 refine wpAnyH_ready (rs:=[3]) (by kernel_rfl) (by simp) ?_
 refine AllReadyH.cons (o:=(⟨some 7,_,_,_,_,none⟩:Oper)) rfl (fun K hK=>?_) AllReadyH.nil
 obtain ⟨ad,rfl,had⟩:=Qr HS2.out (by decide)
 refine step_copy_splice rfl (.tmp 4) (.tmp 6) 24 24 rfl 5 Tryd.underlying24 sU (some ⟨w.heap.size+1,4,none⟩) (some ad) 8 8 8 c2 ?ch1 ?ch2 (w.heap.size+1) 4 (zs.map (Value.int .u8)) 108 HR1.out (b8.map (Value.int .u8)) (by rw [List.length_map,sD.out];rfl) (fun _=>⟨rfl,ad,rfl,had⟩) (by rw [List.length_map,List.length_map,sD.out,uD.out];omega) HCO.out (w.heap.size+1) _ (Below.refl _ _) (Nat.le_refl _) ?_
 case ch1=>go_simp
 case ch2=>go_simp
 intro w4 hb4 hk4
 have II:=Lib.hid (HB3.out.spl hk4 wS.out)
 have qE:=II
 have hb':=hb4.out
 rw [HSP.out] at hb'
 have HFIN:=Lib.hid hb'
 have HRZ:=Lib.hid (Below.blk hk4 IE.out (by omega))
 clear hb4 hk4 hb' had
 refine hK.out _ _ (qE.out) (fun hHeld=>?_)
 clear hK K
 (try simp only [Act.put])
 refine wpAnyH_done (by kernel_rfl) ?_ _
 (try simp only [Exit.then])
 go_wp2_with (first|((with_reducible refine aS 8 ?_);refine ak rfl 108 _ rfl (w.heap.size+1) 0 _ 108 (0,0) _ HFIN.out rfl .u8 nn (au _ _) Tryd.underlying108 rfl (by rw [xI.out];exact uT) ?_)|((with_reducible show wpList _ _ _ (Oper.mk none _ _ _ _ _ :: _) _ _);refine ah rfl 108 _ _ rfl w.heap.size _ _ 108 HRZ.out rfl rfl (by rw [aF,aF,xI.out,uD.out]) (Iu nn xI.out) (av _ _) ?_;intro w3 hb3 hk3 hz3;have HR3:=Lib.hid hb3;have HB3:=Lib.hid ((HW.out.trans (II.out.toBelow HW.out.size (by rintro i rfl;omega))).trans (hk3.toBelow (Nat.le_trans HW.out.size (II.out.size)) (by rintro i rfl;exact Nat.le_refl _)));clear hb3 hk3 hz3))
 (try simp only [Exit.inBlock,Exit.then])
 refine bodyPost_ret (results_cell_row rfl _ _ w.heap.size 108 _ (0,0) _ rfl HR3.out Tryd.underlying108 rfl (Iu nn xI.out)) rfl ?_
 exact ⟨rfl,HB3.out⟩
end Go.Proofs.YthdgbgleklkaiaaDoor.Im
namespace Go.Proofs.YthdgbgleklkaiaaDoor.Im
open Go.RowKit Lm Po Ch Ae
def jA (v i:Int) (n:Nat):Bool:=JZ v i && decide (n=64)
def nR (key:List Int) (v i:Int) (p:List Int):List Int:=if jA v i p.length then lH key (iE i) p (jo v) else []
def nS (v i:Int) (p:List Int):Int:=if jA v i p.length then 0 else 1
theorem zi {v i:Int}:JZ v i=true↔(0≤v∧v≤2147483647∧0≤i∧i < 32):=by simp [JZ]
theorem mayB_no {v i:Int} (h:¬ (0≤v∧v≤2147483647∧0≤i∧i < 32)):JZ v i=false:=by simp only [JZ];exact decide_eq_false h
theorem ny (key xs:List Int) (v i:Int) (sp:Option Addr) (n cp:Nat) (w:World) (hk:key.length=32) (bk:bytes key) (hs:Src w sp n xs) (kc:n≤cp) :
  Calls Tryd.prog 44 #[.agg (arr .u8 key), .int .i64 v, .int .i64 i, .slice sp n cp] w fun e w'=>∃ u,e = .returned (.tuple #[u, .int .i64 (nS v i xs)])∧aV w' w.heap.size u (nR key v i xs)∧Below w.heap.size w w':=by
 have hl:=hs.len
 have hbw:=(Below.refl _ w).alloc (Nat.le_refl _) (.cells (arr .u8 key) 23)
 have HW:=Lib.hid hbw
 by_cases h0:(0≤v∧v≤2147483647∧0≤i∧i < 32)
 ·by_cases h1:n=64
  ·subst h1
   have HM:=Lib.hid (fun w=>(show lT v=true by simp only [lT];exact decide_eq_true ⟨h0.1,h0.2.1⟩)▸gM v w)
   have hE:jA v i xs.length=true:=by simp [jA,zi.2 h0,hl]
   unfold nS nR
   rw [hE,if_pos rfl,if_pos rfl]
   clear hE
   have hnl:=wL i
   have hnb:=BH i
   have hbl:=gW v
   have hbb:=kP v
   have MN:=fun w=>JG i w ⟨by omega,by omega⟩
   have MP:=fun w=>fO v w ⟨by omega,by omega⟩
   have MS:=fun w s c h1 h2=>Cg key (iE i) xs (jo v) sp s 64 8 cp c w hk hnl bk hnb h1 h2 hbb (by decide) (by decide)
   obtain ⟨nn,hnn⟩:∃ x,x=iE i:=⟨_,rfl⟩
   obtain ⟨b8,jH⟩:∃ x,x=jo v:=⟨_,rfl⟩
   rw [← hnn] at hnl MN MS ⊢
   rw [← jH] at hbl MP MS ⊢
   obtain ⟨tx,htx⟩:∃ x,x=lH key nn xs b8:=⟨_,rfl⟩
   rw [← htx] at MS ⊢
   have hr0:=aL w (.cells (arr .u8 key) 23)
   have dU:=Lib.hid hr0
   have HX:=Lib.hid (hs.below hbw)
   have l9:=Lib.hid hk
   have sD:=Lib.hid hbl
   have HMN:=Lib.hid MN
   have HMP:=Lib.hid MP
   have Bq:=Lib.hid MS
   obtain ⟨h00,h01,h02,h03⟩:=h0
   have h03':i≤31:=by omega
   have q0:decide (i < 0)=false:=decide_eq_false (by omega)
   have q1:decide (31 < i)=false:=decide_eq_false (by omega)
   clear hr0 hs hk bk hnl hnb hbl hbb MN MP MS hnn jH htx hl hbw
   go_enter Tryd.func44, Tryd.ntmps44
   go_upto_region 3 with (first|((with_reducible show Calls _ _ _ _ _);go_at_call 25; refine (HM.out _).mono ?_;rintro e w1 ⟨rfl,rfl⟩))
   generalize w.alloc (.cells (arr .u8 key) 23)=wq at dU HX HW ⊢
   have hdr:Below wq.heap.size wq wq.drew:=⟨rfl,rfl,rfl,Nat.le_refl _,fun _ _=>rfl⟩
   have HX:=Lib.hid (HX.out.below hdr)
   clear hdr
   have HB0:=Lib.hid (show Below wq.heap.size wq wq.drew from ⟨rfl,rfl,rfl,Nat.le_refl _,fun _ _=>rfl⟩)
   refine wp_region_held_drew (S:=(fun w'=>Go.RowKit.Below wq.heap.size wq w')) (by kernel_rfl) (HB0.out) (fun hHeld=>?_)
   obtain ⟨wv,hwv⟩:∃ x,x=wq.drew:=⟨_,rfl⟩
   rw [← hwv] at HB0 hHeld HX ⊢
   clear hwv
   refine' wpAnyH_take (i:=0) (oi:=(⟨some 26,_,_,_,_,none⟩:Oper)) (v:=_) rfl (by kernel_rfl) (by kernel_rfl) (by kernel_rfl) (fun _ _ _ h=>h) (yieldsIf_load_mid (by rfl) _ _ rfl _ _ rfl (key.map (Value.int .u8)) _ ?hS2001 Tryd.underlying23 rfl (by rw [List.length_map,l9.out];exact qV)) (by assumption) ?rest2001
   case hS2001=>(intro w hSw;exact aM (Below.blk hSw dU.out (aR dU.out)) 0 _ (by rw [List.length_map];exact au _ _))
   (try simp only [Act.put,sA,sZ,sS])
   refine wpAnyH_take (i:=1) (oi:=(⟨some 27,_,_,_,_,none⟩:Oper)) (v:=?v2002) rfl (by kernel_rfl) (by kernel_rfl) (by kernel_rfl) (fun _ _ _ h=>h) (Or.inl ⟨by rfl,?hy2002⟩) (by assumption) ?rest2002
   case hy2002=>(intro w hSw;(try dsimp only at hSw);go_simp;try (with_reducible rfl))
   (try simp only [Act.put,sA,sZ,sS])
   refine wpAnyH_take (i:=3) (oi:=(⟨some 29,_,_,_,_,none⟩:Oper)) (v:=?v2003) rfl (by kernel_rfl) (by kernel_rfl) (by kernel_rfl) (fun _ _ _ h=>h) (Or.inl ⟨by rfl,?hy2003⟩) (by assumption) ?rest2003
   case hy2003=>(intro w hSw;(try dsimp only at hSw);go_simp;try (with_reducible rfl))
   (try simp only [Act.put,sA,sZ,sS])
   refine wpAnyH_take (i:=4) (oi:=(⟨some 30,_,_,_,_,none⟩:Oper)) (v:=?v2004) rfl (by kernel_rfl) (by kernel_rfl) (by kernel_rfl) (fun _ _ _ h=>h) (Or.inl ⟨by rfl,?hy2004⟩) (by assumption) ?rest2004
   case hy2004=>(intro w hSw;(try dsimp only at hSw);go_simp;try (with_reducible rfl))
   (try simp only [Act.put,sA,sZ,sS])
   refine wpAnyH_ready (rs:=[2]) (by kernel_rfl) (by simp) ?_
   refine AllReadyH.cons (o:=(⟨some 28,_,_,_,_,none⟩:Oper)) rfl (fun K hK=>?_) AllReadyH.nil
   go_simp
   go_at_call 59
   refine (HMN.out _).mono ?_
   rintro e w2005 ⟨rfl,zH⟩
   have Nu:=Lib.hid (HB0.out.trans (zH.mono HB0.out.size))
   have HX:=Lib.hid (HX.out.below zH)
   (try (have HA:=Lib.hid (HA.out.below zH)))
   (try (have HS2:=Lib.hid (HS2.out.below zH)))
   clear zH
   (try dsimp only)
   refine hK.out _ _ (Nu.out) (fun hHeld=>?_)
   clear hK K
   (try simp only [Act.put,sA,sZ,sS])
   refine wpAnyH_ready (rs:=[5]) (by kernel_rfl) (by simp) ?_
   refine AllReadyH.cons (o:=(⟨some 31,_,_,_,_,none⟩:Oper)) rfl (fun K hK=>?_) AllReadyH.nil
   go_simp
   go_at_call 30
   refine (HMP.out _).mono ?_
   rintro e w2006 ⟨v2,rfl,ho2,KS⟩
   have FH:=Lib.hid (Nu.out.trans (KS.mono Nu.out.size))
   obtain ⟨s2,c2,hv2,hc2, -, hs2, -⟩:=ho2.form
   rw [sD.out] at hv2 hs2 hc2
   subst hv2
   have HS2:=Lib.hid hs2
   have PV:=Lib.hid hc2
   clear ho2 hs2 hc2
   have HX:=Lib.hid (HX.out.below KS)
   clear KS
   (try dsimp only)
   refine hK.out _ _ (FH.out) (fun hHeld=>?_)
   clear hK K
   (try simp only [Act.put,sA,sZ,sS])
   refine wpAnyH_ready (rs:=[6]) (by kernel_rfl) (by simp) ?_
   refine AllReadyH.cons (o:=(⟨some 32,_,_,_,_,none⟩:Oper)) rfl (fun K hK=>?_) AllReadyH.nil
   go_simp
   go_at_call 53
   refine (Bq.out _ _ _ HX.out HS2.out).mono ?_
   rintro e w2007 ⟨v3,rfl,ho3,Xb⟩
   have HB2007:=Lib.hid (FH.out.trans (Xb.mono FH.out.size))
   have HO3:=Lib.hid (ho3.mono (B':=w.heap.size) (Nat.le_trans HW.out.size FH.out.size))
   clear ho3
   clear Xb
   (try dsimp only)
   refine hK.out _ _ (HB2007.out) (fun hHeld=>?_)
   clear hK K
   (try simp only [Act.put,sA,sZ,sS])
   refine wpAnyH_take (i:=7) (oi:=(⟨some 8,_,_,_,_,none⟩:Oper)) (v:=?v2008) rfl (by kernel_rfl) (by kernel_rfl) (by kernel_rfl) (fun _ _ _ h=>h) (Or.inl ⟨by rfl,?hy2008⟩) (by assumption) ?rest2008
   case hy2008=>(intro w hSw;(try dsimp only at hSw);go_simp;try (with_reducible rfl))
   (try simp only [Act.put,sA,sZ,sS])
   refine wpAnyH_take (i:=8) (oi:=(⟨some 9,_,_,_,_,none⟩:Oper)) (v:=?v2009) rfl (by kernel_rfl) (by kernel_rfl) (by kernel_rfl) (fun _ _ _ h=>h) (Or.inl ⟨by rfl,?hy2009⟩) (by assumption) ?rest2009
   case hy2009=>(intro w hSw;(try dsimp only at hSw);go_simp;try (with_reducible rfl))
   (try simp only [Act.put,sA,sZ,sS])
   refine wpAnyH_done (by kernel_rfl) ?_ _
   (try simp only [Exit.then])
   go_wp2_with fail
   go_ret2
   exact ⟨_,rfl,HO3.out,HW.out.trans (HB2007.out.mono HW.out.size)⟩
  ·have hn:((n:Int) == 64)=false:=by rw [beq_eq_false_iff_ne];omega
   have hy:JZ v i=true:=zi.2 h0
   have HM:=Lib.hid (fun w=>(show lT v=true by simp only [lT];exact decide_eq_true ⟨h0.1,h0.2.1⟩)▸gM v w)
   obtain ⟨h00,h01,h02,h03⟩:=h0
   have h03':i≤31:=by omega
   have q0:decide (i < 0)=false:=decide_eq_false (by omega)
   have q1:decide (31 < i)=false:=decide_eq_false (by omega)
   have hE:nS v i xs=1:=by simp [nS,jA,hy,hl,h1]
   have hX:nR key v i xs=[]:=by simp [nR,jA,hy,hl,h1]
   rw [hE,hX]
   clear hE hX hk bk
   go_enter Tryd.func44, Tryd.ntmps44
   go_wp2_with (first|((with_reducible show Calls _ _ _ _ _);go_at_call 25; refine (HM.out _).mono ?_;rintro e w1 ⟨rfl,rfl⟩))
   go_ret2
   exact ⟨_,rfl,aV.nil _ _,HW.out⟩
 ·have hy:JZ v i=false:=mayB_no h0
  by_cases h2:(0≤v∧v≤2147483647)
  ·have HM:=Lib.hid (fun w=>(show lT v=true by simp only [lT];exact decide_eq_true h2)▸gM v w)
   by_cases h3:i < 0
   ·skip
    have hE:nS v i xs=1:=by simp [nS,jA,hy]
    have hX:nR key v i xs=[]:=by simp [nR,jA,hy]
    rw [hE,hX]
    clear hE hX hk bk
    go_enter Tryd.func44, Tryd.ntmps44
    go_wp2_with (first|((with_reducible show Calls _ _ _ _ _);go_at_call 25; refine (HM.out _).mono ?_;rintro e w1 ⟨rfl,rfl⟩))
    go_ret2
    exact ⟨_,rfl,aV.nil _ _,HW.out⟩
   ·have h3':0≤i:=by omega
    have h4:31 < i:=by omega
    have q0:decide (i < 0)=false:=decide_eq_false h3
    clear h0
    have hE:nS v i xs=1:=by simp [nS,jA,hy]
    have hX:nR key v i xs=[]:=by simp [nR,jA,hy]
    rw [hE,hX]
    clear hE hX hk bk
    go_enter Tryd.func44, Tryd.ntmps44
    go_wp2_with (first|((with_reducible show Calls _ _ _ _ _);go_at_call 25; refine (HM.out _).mono ?_;rintro e w1 ⟨rfl,rfl⟩))
    go_ret2
    exact ⟨_,rfl,aV.nil _ _,HW.out⟩
  ·have HM:=Lib.hid (fun w=>(show lT v=false by simp only [lT];exact decide_eq_false h2)▸gM v w)
   have hE:nS v i xs=1:=by simp [nS,jA,hy]
   have hX:nR key v i xs=[]:=by simp [nR,jA,hy]
   rw [hE,hX]
   clear hE hX hk bk
   go_enter Tryd.func44, Tryd.ntmps44
   go_wp2_with (first|((with_reducible show Calls _ _ _ _ _);go_at_call 25; refine (HM.out _).mono ?_;rintro e w1 ⟨rfl,rfl⟩))
   go_ret2
   exact ⟨_,rfl,aV.nil _ _,HW.out⟩
end Go.Proofs.YthdgbgleklkaiaaDoor.Im
