/- The document's tag. aead.Seal and the document's. image.may, image.nonce, the document's small and nonce. The document's nonce of a block. image.Seal, image.Open and the document's. Condition: as each theorem says. -/
import Derived.Deep.CutBlock
import Derived.Laws.CopyOwn
import Derived.Laws.Cover3
import Derived.Lib.SlBytesConst
import Derived.StillTailTactics
import Derived.Test.YthdgbgleklkaiaaDoorQb03
import Derived.Test.YthdgbgleklkaiaaDoorQb05
import Derived.Test.YthdgbgleklkaiaaDoorQb27
import Derived.Test.YthdgbgleklkaiaaDoorQb37
open Go.Lib renaming hid→acD
open List renaming replicate→acE,length_map→acG,length_append→acH,length_replicate→acI,nil_append→acK,getElem?_map→acM
open Nat renaming le_refl→acF,le_trans→acJ
set_option linter.unusedSimpArgs false
set_option linter.unusedVariables false
set_option maxRecDepth 100000
set_option maxHeartbeats 16000000
namespace Go.Proofs.YthdgbgleklkaiaaDoor.Ae
open Go.RowKit Lm Po Ch
theorem zr_add (a b:Nat) (h:a % 16=0):zr (a+b)=zr b:=by unfold zr;omega
theorem zr_full (a:Nat):(a+zr a) % 16=0:=by unfold zr;omega
theorem msg_ref (beside c:List Int):((((beside ++ acE (zr beside.length) 0) ++ c) ++ acE (zr ((beside ++ acE (zr beside.length) 0) ++ c).length) 0) ++ Fe beside.length) ++ Fe c.length=msg beside c:=by
 have h:zr ((beside ++ acE (zr beside.length) 0) ++ c).length=zr c.length:=by
  rw [acH,acH,acI]
  exact zr_add _ _ (zr_full _)
 rw [h,msg]
 simp only [List.append_assoc]
theorem Nl (xs:List Int) (hl:xs.length=16):(Tryd.prog.info? 122).map (·.size)=some (arr .u8 xs).size:=by rw [aD,hl];kernel_rfl
theorem arrSig (xs:List Int) (hl:xs.length=64):(Tryd.prog.info? 26).map (·.size)=some (arr .u8 xs).size:=by rw [aD,hl];kernel_rfl
theorem B3.of_below {w wr w':World} {c0 c1 c2:Array Value} {t0 t1 t2:TypeId} {B b:Nat} (h:B3 w wr c0 c1 c2 t0 t1 t2) (h1:b < B) (h2:w.heap.size+1+1 < b) (k:Below B wr w'):B3 w w' c0 c1 c2 t0 t1 t2 :=
 ⟨Below.blk k h.b0 (by omega),Below.blk k h.b1 (by omega),Below.blk k h.b2 (by omega),h.below.trans (k.mono (by omega))⟩
theorem VF (key aM c beside:List Int) (sc sb:Option Addr) (n1 n2 c1 c2:Nat) (w:World) (hk:key.length=32) (hn:aM.length=12) (bk:bytes key) (bn:bytes aM) (hc:Src w sc n1 c) (hb:Src w sb n2 beside) (bc:bytes c) (bb:bytes beside) (l1:n1≤274877906944) (l2:n2≤274877906944) :
  Calls Tryd.prog 73 #[.agg (arr .u8 key), .agg (arr .u8 aM), .slice sc n1 c1, .slice sb n2 c2] w fun e w'=>e = .returned (.agg (arr .u8 (tag key aM c beside)))∧Below w.heap.size w w':=by
 have hcl:=hc.len
 have hbl:=hb.len
 obtain ⟨zt,Cq⟩:∃ zs:List Int,zs=acE 16 0:=⟨_,rfl⟩
 have hyt:∀ w,(zeroValue 122).run Tryd.prog w = .ok (.agg (arr .u8 zt)) w:=by intro w;rw [Cq];exact OT w
 have IG:zt.length=16:=by rw [Cq];rfl
 obtain ⟨zb,hzb⟩:∃ zs:List Int,zs=acE 32 0:=⟨_,rfl⟩
 have hyb:∀ w,(zeroValue 23).run Tryd.prog w = .ok (.agg (arr .u8 zb)) w:=by intro w;rw [hzb];exact zero32' w
 have hzbl:zb.length=32:=by rw [hzb];rfl
 obtain ⟨zg,hzg⟩:∃ zs:List Int,zs=acE 64 0:=⟨_,rfl⟩
 have hyg:∀ w,(zeroValue 26).run Tryd.prog w = .ok (.agg (arr .u8 zg)) w:=by intro w;rw [hzg];exact zero64 w
 have hzgl:zg.length=64:=by rw [hzg];rfl
 have M1:=fun w=>nO key aM 0 w hk hn bk bn
 rw [show (0:Int) % 4294967296=0 from rfl] at M1
 have XH:=msg_ref beside c
 rw [hbl,hcl] at XH
 obtain ⟨tg,Qh⟩:∃ x,x=tag key aM c beside:=⟨_,rfl⟩
 have tgl:tg.length=16:=by rw [Qh,yw]
 obtain ⟨bl,Ym⟩:∃ x,x=block key 0 aM:=⟨_,rfl⟩
 have bll:bl.length=64:=by rw [Ym,qW]
 have blb:bytes bl:=by rw [Ym];exact Jk _ _ _
 obtain ⟨M,hM⟩:∃ x,x=msg beside c:=⟨_,rfl⟩
 have mb:bytes M:=by rw [hM];exact TT bb bc
 have ml:M.length≤1099511627776:=by rw [hM];have:=msg_len beside c;omega
 obtain ⟨k32,XK⟩:∃ x,x=bl.take 32:=⟨_,rfl⟩
 have k32l:k32.length=32:=by rw [XK,List.length_take];omega
 have k32b:bytes k32:=by rw [XK];exact oh blb 32
 have htg2:aW (Kh (toN k32) (toN M))=tg:=by rw [Qh,tag,XK,Ym,hM]
 have M5:=fun sa n cap w hs hn=>VZ sa n cap (toN k32) (toN M) w hs (toN_lt mb) (by rw [toN_len];exact k32l) (toN_lt k32b) hn
 rw [toN_nar mb,toN_nar k32b,htg2] at M5
 rw [← hM] at XH
 rw [← Ym] at M1
 rw [← Qh]
 have S0:=B3.start w (arr .u8 key) (arr .u8 aM) (arr .u8 zt) 23 108 122
 obtain ⟨cs,hcs⟩:∃ cs,cs=k32.map (Value.int .u8):=⟨_,rfl⟩
 have csl:cs.length=32:=by rw [hcs,acG,k32l]
 have cso:∀ v∈cs,v.oneCell'=true:=by rw [hcs];intro v hv;obtain ⟨y,_,rfl⟩:=List.mem_map.1 hv;rfl
 have hsp:(Go.splice (zb.map (Value.int .u8)) 0 cs).toArray=arr .u8 k32:=by
  unfold Go.splice arr
  rw [List.take_zero,acK,Nat.zero_add,csl,List.drop_of_length_le (by rw [acG,hzbl];exact acF _),List.append_nil,hcs]
 have hrg:∀ (w':World) (g:Nat),w'.heap[g]? = some (.cells (arr .u8 bl) 26 (0,0))→∀ j v,cs[j]? = some v→w'.cell? (Addr.add ⟨g,0,none⟩ j)=some v:=by
  intro w' g hg j v hj
  have:=aN hg 0 cs (by rw [csl,List.drop_zero,bN,← List.map_take,← XK,hcs])
  have e:Addr.add ⟨g,0,none⟩ j=⟨g,0+j,none⟩:=by
   unfold Addr.add
   split
   ·rename_i h0;rw [h0]
   ·rfl
  rw [e]
  exact this j v hj
 obtain ⟨xa,hxa⟩:∃ x,x=beside ++ acE (zr beside.length) 0:=⟨_,rfl⟩
 obtain ⟨xb,hxb⟩:∃ x,x=xa ++ c:=⟨_,rfl⟩
 obtain ⟨xc,hxc⟩:∃ x,x=xb ++ acE (zr xb.length) 0:=⟨_,rfl⟩
 obtain ⟨xd,hxd⟩:∃ x,x=xc ++ Fe n2:=⟨_,rfl⟩
 have hz1:zr beside.length < 16:=Nat.mod_lt _ (by decide)
 have hz2:zr xb.length < 16:=Nat.mod_lt _ (by decide)
 have xal:xa.length≤n2+16:=by rw [hxa,acH,acI];omega
 have xbl:xb.length≤n1+n2+16:=by rw [hxb,acH];omega
 have xcl:xc.length≤n1+n2+32:=by rw [hxc,acH,acI];omega
 have xdl:xd.length≤n1+n2+40:=by rw [hxd,acH,nV];omega
 rw [← hbl,← hxa,← hxb,← hxc,hbl,← hxd] at XH
 have XA:=acD hxa.symm
 have XB:=acD hxb.symm
 have XC:=acD hxc.symm
 have XD:=acD hxd.symm
 have XE:=acD XH
 have XAL:=acD xal
 have XBL:=acD xbl
 have XCL:=acD xcl
 have XDL:=acD xdl
 clear hxa hxb hxc hxd hz1 hz2 xal xbl xcl xdl
 have bQ:=acD S0
 have HK:=acD hk
 have HN:=acD hn
 have HC:=acD hc
 have HB:=acD hb
 have nD:=acD hcl
 have q8:=acD hbl
 have HYT:=acD hyt
 have HZT:=acD IG
 have HYB:=acD hyb
 have HZB:=acD hzbl
 have HYG:=acD hyg
 have HZG:=acD hzgl
 have Cz:=acD M1
 have HM5:=acD M5
 have Uw:=acD tgl
 have BLL:=acD bll
 have ML:=acD ml
 have K32L:=acD k32l
 have CSL:=acD csl
 have CSO:=acD cso
 have HSP:=acD hsp
 have HRG:=acD hrg
 clear S0 hk hn hc hb hcl hbl hyt IG hyb hzbl hyg hzgl M1 M5 XH tgl bll ml k32l csl cso hsp hrg Cq hzb hzg Qh Ym blb hM mb XK k32b htg2 bk bn bc bb hcs
 go_enter Tryd.func73, Tryd.ntmps73
 go_wp2_with (first|((with_reducible refine aS 8 ?_);refine aj rfl 122 rfl _ (HYT.out _) ?_)|((with_reducible refine aS 12 ?_);refine ak rfl 23 _ rfl w.heap.size 0 _ 23 (0,0) _ bQ.out.b0 rfl .u8 key (au _ _) Tryd.underlying23 rfl (by rw [HK.out];exact rR) ?_)|((with_reducible refine aS 13 ?_);refine ak rfl 108 _ rfl (w.heap.size+1) 0 _ 108 (0,0) _ bQ.out.b1 rfl .u8 aM (au _ _) Tryd.underlying108 rfl (by rw [HN.out];exact vC) ?_)|((with_reducible show Calls _ _ _ _ _);go_at_call 89; refine (Cz.out _).mono ?_;rintro e w1 ⟨rfl,hbw⟩;have HB1:=acD (bQ.out.after hbw);have hl1:=aO HB1.out.b2;clear hbw)|((with_reducible refine aS 9 ?_);refine aj rfl 26 rfl _ (HYG.out _) ?_;go_simp)|((with_reducible refine aT 9 ?_);refine ah rfl 26 _ _ rfl w1.heap.size _ _ 26 (aG _ _) rfl rfl (by rw [aD,aD,BLL.out,HZG.out]) (arrSig bl BLL.out) (av _ _) ?_;intro w2 hb2 hk2 hz2;have HB2:=acD ((HB1.out.alloc (.cells (arr .u8 zg) 26)).Tq hk2 (by rintro i rfl;omega));have HG2:=acD hb2;have hl2:=aO hb2;clear hb2 hk2 hz2)|((with_reducible refine aS 10 ?_);refine aj rfl 23 rfl _ (HYB.out _) ?_))
 have HB3:=acD (HB2.out.alloc (.cells (arr .u8 zb) 23)).drew
 have UF:Hid ((w2.alloc (.cells (arr .u8 zb) 23)).drew.heap[w1.heap.size]? = some (.cells (arr .u8 bl) 26 (0,0))):=acD (aY HG2.out (.cells (arr .u8 zb) 23))
 have HO3:Hid ((w2.alloc (.cells (arr .u8 zb) 23)).drew.heap[w2.heap.size]? = some (.cells (arr .u8 zb) 23 (0,0))):=acD (aG w2 (.cells (arr .u8 zb) 23))
 (try simp only [Act.put])
 go_still_tail 2,(by kernel_rfl)
 change wpList _ _ _ _ _ (w2.alloc (.cells (arr .u8 zb) 23)).drew
 generalize (w2.alloc (.cells (arr .u8 zb) 23)).drew=w3 at HB3 UF HO3 ⊢
 go_wp2_with (first|((with_reducible refine aS 17 ?_);refine wpList_copy_splice rfl (.tmp 15) (.tmp 16) 24 24 rfl 5 Tryd.underlying24 nM _ _ _ _ _ _ rfl rfl w2.heap.size 0 (zb.map (Value.int .u8)) 23 HO3.out cs (by rw [CSL.out];rfl) (fun _=>⟨rfl,⟨w1.heap.size,0,none⟩,rfl,HRG.out _ _ UF.out⟩) (by rw [CSL.out,acG,HZB.out];omega) CSO.out w2.heap.size w3 (Below.refl _ _) (acF _) ?_;intro w4 hb4 hw4;have hb4':=hb4.out;rw [HSP.out] at hb4';have UD:=acD hb4';have HB4:=acD (B3.of_below HB3.out hl2 hl1 hw4);have hl4:=aO hb4';clear hb4 hb4' hw4)|((with_reducible refine aS 19 ?_);refine aR rfl _ _ rfl w4.heap.size (.slice none 0 0) [] rfl (aU.nil _ _) sb n2 c2 beside rfl (HB.out.below HB4.out.below) (by simp;omega) (acF _) ?_;intro v5 w5 ho5 hg5 hn5 ha5;rw [acK] at ho5;have JY:=acD ho5;have HW5:=acD ((Below.refl w4.heap.size w4).grown hg5 (acF _) (fun k hk=>by cases hk));clear ho5 hg5 hn5 ha5)|((with_reducible show Calls _ _ _ w5 _);go_at_call 90; refine (AB w4.heap.size v5 beside w5 JY.out HW5.out.size (by rw [q8.out];omega)).mono ?_;rintro e w6 ⟨v6,rfl,yJ,hw6⟩;rw [XA.out] at yJ;have En:=acD yJ;have Uy:=acD (HW5.out.trans hw6);clear yJ hw6)|((with_reducible refine aS 23 ?_);refine aR rfl _ _ rfl w4.heap.size v6 xa rfl En.out sc n1 c1 c rfl ((HC.out.below HB4.out.below).below Uy.out) (by have:=XAL.out;omega) Uy.out.size ?_;intro v7 w7 ho7 hg7 hn7 ha7;have hw7:=aQ En.out hg7 Uy.out Uy.out.size;rw [XB.out] at ho7;have HO7:=acD ho7;have HW7:=acD hw7;clear ho7 hg7 hn7 ha7 hw7)|((with_reducible show Calls _ _ _ w7 _);go_at_call 90; refine (AB w4.heap.size v7 xb w7 HO7.out HW7.out.size (by have:=XBL.out;omega)).mono ?_;rintro e w8 ⟨v8,rfl,ho8,hw8⟩;rw [XC.out] at ho8;have UC:=acD ho8;have HW8:=acD (HW7.out.trans hw8);clear ho8 hw8)|((with_reducible show Calls _ _ _ w8 _);go_at_call 91; refine (Ac n2 (by omega) w8).mono ?_;rintro e w9 ⟨v9,rfl,ho9,hw9⟩;obtain ⟨s9,c9,hv9, -, -, hs9, -⟩:=ho9.form;rw [nV] at hv9 hs9;subst hv9;have HS9:=acD hs9;have GL:=acD (UC.out.below hw9);have Ux:=acD (HW8.out.trans (hw9.mono HW8.out.size));clear ho9 hw9 hs9)|((with_reducible refine aS 29 ?_);refine aR rfl _ _ rfl w4.heap.size v8 xc rfl GL.out s9 8 c9 (Fe n2) rfl HS9.out (by have:=XCL.out;omega) Ux.out.size ?_;intro va wa hoa hga hna haa;have hwa:=aQ GL.out hga Ux.out Ux.out.size;rw [XD.out] at hoa;have HOa:=acD hoa;have HWa:=acD hwa;clear hoa hga hna haa hwa)|((with_reducible show Calls _ _ _ wa _);go_at_call 91; refine (Ac n1 (by omega) wa).mono ?_;rintro e wb ⟨vb,rfl,JR,hwb⟩;obtain ⟨sb',cb,hvb, -, -, hsb, -⟩:=JR.form;rw [nV] at hvb hsb;subst hvb;have HSb:=acD hsb;have HOb:=acD (HOa.out.below hwb);have HWb:=acD (HWa.out.trans (hwb.mono HWa.out.size));clear JR hwb hsb)|((with_reducible refine aS 33 ?_);refine aR rfl _ _ rfl w4.heap.size va xd rfl HOb.out sb' 8 cb (Fe n1) rfl HSb.out (by have:=XDL.out;omega) HWb.out.size ?_;intro vc wc hoc hgc hnc hac;have hwc:=aQ HOb.out hgc HWb.out HWb.out.size;rw [XE.out] at hoc;obtain ⟨sm,cm,hvm, -, -, hsm, -⟩:=hoc.form;subst hvm;have HSM:=acD hsm;have HWc:=acD hwc;have HBc:=acD (HB4.out.after hwc);have HOc:=acD (Below.blk hwc UD.out hl4);clear hoc hgc hnc hac hwc hsm)|((with_reducible refine aS 34 ?_);refine ak rfl 23 _ rfl w2.heap.size 0 _ 23 (0,0) _ HOc.out rfl .u8 k32 (au _ _) Tryd.underlying23 rfl (by rw [K32L.out];exact rR) ?_)|((with_reducible show Calls _ _ _ wc _);go_at_call 92; refine (HM5.out _ _ _ _ HSM.out ML.out).mono ?_;rintro e wd ⟨rfl,hbw⟩;have eB:=acD (HBc.out.after hbw);clear hbw)|((with_reducible refine aT 8 ?_);refine ah rfl 122 _ _ rfl (w.heap.size+1+1) _ _ 122 eB.out.b2 rfl rfl (by rw [aD,aD,Uw.out,HZT.out]) (Nl tg Uw.out) (av _ _) ?_;intro we hbe hke iM;have HBe:=acD (eB.out.put2 hke hbe);clear hbe hke iM))
 (try simp only [Exit.inBlock,Exit.then])
 refine bodyPost_ret (results_cell_row rfl _ _ (w.heap.size+1+1) 122 _ (0,0) _ rfl HBe.out.b2 Tryd.underlying122 rfl (Nl tg Uw.out)) rfl ?_
 exact ⟨rfl,HBe.out.below⟩
end Go.Proofs.YthdgbgleklkaiaaDoor.Ae
namespace Go.Proofs.YthdgbgleklkaiaaDoor.Ae
open Go.RowKit Lm Po Ch
theorem src_arr {w:World} {g:Nat} {xs:List Int} {t:TypeId} {fr:Nat×Nat} (h:w.heap[g]? = some (.cells (arr .u8 xs) t fr)) (m:Nat) (hm:xs.length=m):Src w (some ⟨g,0,none⟩) m xs :=
 nL h (by rw [bN,Nat.mul_one,List.take_of_length_le (by rw [acG];exact acF _)]) hm
theorem Dr (key aM plain beside:List Int) (sp sb:Option Addr) (n1 n2 c1 c2:Nat) (w:World) (hk:key.length=32) (hn:aM.length=12) (bk:bytes key) (bn:bytes aM) (hp:Src w sp n1 plain) (hb:Src w sb n2 beside) (bb:bytes beside) (l1:n1≤137438953472) (l2:n2≤137438953472) :
  Calls Tryd.prog 53 #[.agg (arr .u8 key), .agg (arr .u8 aM), .slice sp n1 c1, .slice sb n2 c2] w fun e w'=>∃ v,e = .returned v∧aU w' w.heap.size v (lV key aM plain beside)∧Below w.heap.size w w':=by
 have hpl:=hp.len
 obtain ⟨zt,Cq⟩:∃ zs:List Int,zs=acE 16 0:=⟨_,rfl⟩
 have hyt:∀ w,(zeroValue 122).run Tryd.prog w = .ok (.agg (arr .u8 zt)) w:=by intro w;rw [Cq];exact OT w
 have IG:zt.length=16:=by rw [Cq];rfl
 have M1:=fun w hs=>RP sp n1 c1 plain key aM 1 w hs hk hn bk bn (by omega)
 obtain ⟨tx,htx⟩:∃ x,x=turn key 1 aM plain:=⟨_,rfl⟩
 have txl:tx.length=n1:=by rw [htx,zl,hpl]
 have txb:bytes tx:=by rw [htx];exact A9 _ _ _ _
 have M2:=fun sc c1 w (hc:Src w sc n1 tx) hb=>VF key aM tx beside sc sb n1 n2 c1 c2 w hk hn bk bn hc hb txb bb (by omega) (by omega)
 obtain ⟨tg,Qh⟩:∃ x,x=tag key aM tx beside:=⟨_,rfl⟩
 have tgl:tg.length=16:=by rw [Qh,yw]
 have hse:tx ++ tg=lV key aM plain beside:=by rw [lV,← htx,← Qh]
 rw [← htx] at M1
 rw [← Qh] at M2
 rw [← hse]
 have S0:=B2.start w (arr .u8 key) (arr .u8 aM) 23 108
 have bQ:=acD S0
 have HK:=acD hk
 have HN:=acD hn
 have HP:=acD (hp.below S0.below)
 have HB:=acD (hb.below S0.below)
 have HYT:=acD hyt
 have HZT:=acD IG
 have Cz:=acD M1
 have GN:=acD M2
 have TXL:=acD txl
 have Uw:=acD tgl
 clear S0 hk hn hp hb hpl hyt IG M1 M2 txl tgl Cq htx txb Qh hse bk bn bb
 go_enter Tryd.func53, Tryd.ntmps53
 go_wp2_with (first|((with_reducible refine aS 11 ?_);refine ak rfl 23 _ rfl w.heap.size 0 _ 23 (0,0) _ bQ.out.b0 rfl .u8 key (au _ _) Tryd.underlying23 rfl (by rw [HK.out];exact rR) ?_)|((with_reducible refine aS 12 ?_);refine ak rfl 108 _ rfl (w.heap.size+1) 0 _ 108 (0,0) _ bQ.out.b1 rfl .u8 aM (au _ _) Tryd.underlying108 rfl (by rw [HN.out];exact vC) ?_)|((with_reducible show Calls _ _ #[_, .int _ _,_,_] _ _);go_at_call 72; refine (Cz.out _ HP.out).mono ?_;rintro e w1 ⟨v1,rfl,ho1,hbw⟩;have HB1:=acD (bQ.out.after hbw);obtain ⟨s1,tQ,hv1, -, -, hs1, -⟩:=ho1.form;rw [TXL.out] at hv1 hs1;subst hv1;have NA:=acD ho1;have Uf:=acD hs1;have HBS:=acD (HB.out.below hbw);have hsz1:w.heap.size≤w1.heap.size:=HB1.out.below.size;clear hbw ho1 hs1)|((with_reducible refine aS 15 ?_);refine ak rfl 23 _ rfl w.heap.size 0 _ 23 (0,0) _ HB1.out.b0 rfl .u8 key (au _ _) Tryd.underlying23 rfl (by rw [HK.out];exact rR) ?_)|((with_reducible refine aS 16 ?_);refine ak rfl 108 _ rfl (w.heap.size+1) 0 _ 108 (0,0) _ HB1.out.b1 rfl .u8 aM (au _ _) Tryd.underlying108 rfl (by rw [HN.out];exact vC) ?_)|((with_reducible show Calls _ _ _ w1 _);go_at_call 73; refine (GN.out s1 tQ w1 Uf.out HBS.out).mono ?_;rintro e w2 ⟨rfl,hbw⟩;have HB2:=acD (HB1.out.after hbw);have Br:=acD (NA.out.below hbw);clear hbw)|((with_reducible refine aS 10 ?_);refine aj rfl 122 rfl _ (HYT.out _) ?_;go_simp)|((with_reducible refine aT 10 ?_);refine ah rfl 122 _ _ rfl w2.heap.size _ _ 122 (aG _ _) rfl rfl (by rw [aD,aD,Uw.out,HZT.out]) (Nl tg Uw.out) (av _ _) ?_;intro w3 hb3 hk3 hz3;have hl3:=aO HB2.out.b1;have HB3:=acD ((HB2.out.alloc (.cells (arr .u8 zt) 122)).Tq hk3 (by rintro i rfl;omega));have UF:=acD (src_arr hb3 16 Uw.out);have HO3:=acD (((Br.out.alloc (.cells (arr .u8 zt) 122)).kept hk3 (fun g hg e=>by have:=(Br.out.lt g hg).2;omega)).mono (B':=w.heap.size) (by simp;omega));clear hb3 hk3 hz3)|((with_reducible refine aS 22 ?_);refine aR rfl _ _ rfl w.heap.size (.slice s1 n1 tQ) tx rfl HO3.out (some ⟨w2.heap.size,0,none⟩) 16 16 tg rfl UF.out (by rw [TXL.out];omega) HB3.out.below.size ?_;intro v4 w4 ho4 hg4 hn4 ha4;have hw4:=aQ HO3.out hg4 HB3.out.below HB3.out.below.size;have UD:=acD ho4;have HW4:=acD hw4;clear ho4 hg4 hn4 ha4 hw4))
 go_ret
 exact ⟨_,rfl,UD.out,HW4.out⟩
end Go.Proofs.YthdgbgleklkaiaaDoor.Ae
namespace Go.Proofs.YthdgbgleklkaiaaDoor.Im
open Go.RowKit Lm Po Ch Ae
def KO (v i:Int):Bool:=decide (0≤v∧v≤2147483647∧0≤i∧i < 32)
def iH (i:Int):List Int:=acE 4 0 ++ iV i
theorem xu (i:Int):(iH i).length=12:=by rw [iH,acH,acI,fU]
theorem CX (i:Int):bytes (iH i):=bytes_append (qB 4) (lq i)
def mq (v:Int):Bool:=decide (0≤v∧v≤2147483647)
theorem gT (v:Int) (w:World):Calls Tryd.prog 25 #[.int .i64 v] w fun e w'=>e = .returned (.bool (mq v))∧w=w':=by
 unfold mq
 by_cases h1:0≤v
 ·by_cases h2:v≤2147483647
  ·rw [decide_eq_true ⟨h1,h2⟩]
   go_enter Tryd.func25, Tryd.ntmps25
   go_wp2
   go_ret
   exact ⟨rfl,rfl⟩
  ·rw [decide_eq_false (fun h=>h2 h.2)]
   have h2':2147483647 < v:=by omega
   go_enter Tryd.func25, Tryd.ntmps25
   go_wp2
   go_ret
   exact ⟨rfl,rfl⟩
 ·rw [decide_eq_false (fun h=>h1 h.1)]
  have h1':v < 0:=by omega
  go_enter Tryd.func25, Tryd.ntmps25
  go_wp2
  go_ret
  exact ⟨rfl,rfl⟩
theorem zero12 (w:World):(zeroValue 108).run Tryd.prog w = .ok (.agg (arr .u8 (acE 12 0))) w:=by kernel_rfl
theorem Jt (xs:List Int) (hl:xs.length=12):(Tryd.prog.info? 108).map (·.size)=some (arr .u8 xs).size:=by rw [aD,hl];exact vC
end Go.Proofs.YthdgbgleklkaiaaDoor.Im
namespace Go.Proofs.YthdgbgleklkaiaaDoor.Im
open Go.RowKit Lm Po Ch Ae
theorem Ry {w:World} {sa:Option Addr} {n:Nat} {xs:List Int} (h:Src w sa n xs) (hp:0 < n):∃ ad,sa=some ad∧∀ j v,(xs.map (Value.int .u8))[j]? = some v→w.cell? (ad.add j)=some v:=by
 obtain ⟨ad,rfl, -⟩:=h.cell 0 hp
 refine ⟨ad,rfl,fun j v hv=>?_⟩
 have hj:j < xs.length:=by
  by_cases h:j < xs.length
  ·exact h
  ·rw [acM,List.getElem?_eq_none (by omega)] at hv;cases hv
 obtain ⟨a,ha,hc⟩:=h.cell j (by have:=h.len;omega)
 injection ha with ha
 subst ha
 rw [hc]
 rw [acM,List.getElem?_eq_getElem hj] at hv
 simp [List.getD,hj] at hv ⊢
 exact hv
theorem _root_.Go.Proofs.YthdgbgleklkaiaaDoor.Kept.spl {G:Nat} {a b c:World} (h:Kept (fun x=>x=G) a b) (k:Below G b c) (hs:a.heap.size=G+1):Kept (fun x=>x=G) a c :=
 ⟨k.os.trans h.os,k.tape.trans h.tape,k.output.trans h.output,acJ h.size k.size,fun i hi ht=>(k.block i (by have:i≠G:=ht;omega)).trans (h.block i hi ht)⟩
theorem Rz (x:Int):(splice ((acE 12 (0:Int)).map (Value.int .u8)) 4 ((iV x).map (Value.int .u8))).toArray=arr .u8 (iH x):=by
 rfl
theorem Kr (i:Int) (w:World) (hi : -9223372036854775808≤i∧i≤9223372036854775807):Calls Tryd.prog 59 #[.int .i64 i] w fun e w'=>e = .returned (.agg (arr .u8 (iH i)))∧Below w.heap.size w w':=by
 obtain ⟨zs,hzs⟩:∃ zs:List Int,zs=acE 12 0:=⟨_,rfl⟩
 have hz:∀ w,(zeroValue 108).run Tryd.prog w = .ok (.agg (arr .u8 zs)) w:=by intro w;rw [hzs];exact zero12 w
 have hzl:zs.length=12:=by rw [hzs];rfl
 have M:=fun w=>gu i w hi
 have hsp:=Rz i
 rw [← hzs] at hsp
 have hbl:=fU i
 obtain ⟨b8,jP⟩:∃ x,x=iV i:=⟨_,rfl⟩
 rw [← jP] at hsp hbl M
 obtain ⟨nn,hnn⟩:∃ x,x=iH i:=⟨_,rfl⟩
 have hnl:nn.length=12:=by rw [hnn,xu]
 rw [← hnn] at hsp ⊢
 have hco:∀ v∈b8.map (Value.int .u8),v.oneCell'=true:=by
  intro v hv
  obtain ⟨x, -, rfl⟩:=List.mem_map.1 hv
  rfl
 have hr0:((w.alloc (.cells (arr .u8 zs) 108)).alloc (.cells (arr .u8 zs) 108)).heap[w.heap.size]? = some (.cells (arr .u8 zs) 108 (0,0)):=aY (aG w _) _
 have hr1:((w.alloc (.cells (arr .u8 zs) 108)).alloc (.cells (arr .u8 zs) 108)).heap[w.heap.size+1]? = some (.cells (arr .u8 zs) 108 (0,0)):=by have:=aG (w.alloc (.cells (arr .u8 zs) 108)) (.cells (arr .u8 zs) 108);rwa [World.size_alloc] at this
 have hb0:Below w.heap.size w ((w.alloc (.cells (arr .u8 zs) 108)).alloc (.cells (arr .u8 zs) 108)):=((Below.refl _ w).alloc (acF _) _).alloc (by simp) _
 have hsz:((w.alloc (.cells (arr .u8 zs) 108)).alloc (.cells (arr .u8 zs) 108)).heap.size=w.heap.size+1+1:=by rw [World.size_alloc,World.size_alloc]
 have xI:=acD hsz
 have HZ:=acD hz
 have uT:=acD hzl
 have HM:=acD M
 have HSP:=acD hsp
 have q8:=acD hbl
 have yt:=acD hnl
 have HCO:=acD hco
 have FY:=acD hr0
 have HR1:=acD hr1
 have HW:=acD hb0
 clear hz hzl M hsp hbl hnl hco hr0 hr1 hb0 hzs jP hnn hi hsz
 go_enter Tryd.func59, Tryd.ntmps59
 go_upto_region 2 with (first|((with_reducible refine aS 2 ?_);refine aj rfl 108 rfl _ (HZ.out _) ?_)|((with_reducible refine aS 3 ?_);refine aj rfl 108 rfl _ (HZ.out _) ?_;go_simp))
 (try simp only [World.size_alloc])
 generalize ((w.alloc (.cells (arr .u8 zs) 108)).alloc (.cells (arr .u8 zs) 108))=wq at FY HR1 HW xI ⊢
 have HB0:=acD ((Kept.refl (fun x=>x=w.heap.size+1) wq).drew)
 refine wp_region_held_drew (S:=(fun w'=>Kept (fun x=>x=w.heap.size+1) wq w')) (by kernel_rfl) (HB0.out) (fun hHeld=>?_)
 refine wpAnyH_take (i:=0) (oi:=(⟨some 4,_,_,_,_,none⟩:Oper)) (v:=?v1) rfl (by kernel_rfl) (by kernel_rfl) (by kernel_rfl) (fun _ _ _ h=>h) (Or.inl ⟨by rfl,?hy1⟩) (by assumption) ?rest1
 case hy1=>(intro w hSw;(try dsimp only at hSw);go_simp;try (with_reducible rfl))
 (try simp only [Act.put,sA,sZ,sS])
 refine wpAnyH_take (i:=1) (oi:=(⟨some 5,_,_,_,_,none⟩:Oper)) (v:=?v2) rfl (by kernel_rfl) (by kernel_rfl) (by kernel_rfl) (fun _ _ _ h=>h) (Or.inl ⟨by rfl,?hy2⟩) (by assumption) ?rest2
 case hy2=>(intro w hSw;(try dsimp only at hSw);go_simp;try (with_reducible rfl))
 (try simp only [Act.put,sA,sZ,sS])
 refine wpAnyH_ready (rs:=[2]) (by kernel_rfl) (by simp) ?_
 refine AllReadyH.cons (o:=(⟨some 6,_,_,_,_,none⟩:Oper)) rfl (fun K hK=>?_) AllReadyH.nil
 go_simp
 go_at_call 30
 refine (HM.out _).mono ?_
 rintro e w3 ⟨v2,rfl,ho2,hb3⟩
 have HB3:=acD (HB0.out.trans (Kept.of_below hb3))
 obtain ⟨s2,c2,hv2, -, -, hs2, -⟩:=ho2.form
 rw [q8.out] at hv2 hs2
 subst hv2
 have HS2:=acD hs2
 clear ho2 hs2
 have FY:=acD (Below.blk hb3 FY.out (aO FY.out))
 have HR1:=acD (Below.blk hb3 HR1.out (aO HR1.out))
 clear hb3
 (try dsimp only)
 refine hK.out _ _ (HB3.out) (fun hHeld=>?_)
 clear hK K
 (try simp only [Act.put,sA,sZ,sS])
 refine wpAnyH_ready (rs:=[3]) (by kernel_rfl) (by simp) ?_
 refine AllReadyH.cons (o:=(⟨some 7,_,_,_,_,none⟩:Oper)) rfl (fun K hK=>?_) AllReadyH.nil
 obtain ⟨ad,rfl,had⟩:=Ry HS2.out (by decide)
 refine step_copy_splice rfl (.tmp 4) (.tmp 6) 24 24 rfl 5 Tryd.underlying24 nM (some ⟨w.heap.size+1,4,none⟩) (some ad) 8 8 8 c2 ?ch1 ?ch2 (w.heap.size+1) 4 (zs.map (Value.int .u8)) 108 HR1.out (b8.map (Value.int .u8)) (by rw [acG,q8.out];rfl) (fun _=>⟨rfl,ad,rfl,had⟩) (by rw [acG,acG,q8.out,uT.out];omega) HCO.out (w.heap.size+1) _ (Below.refl _ _) (acF _) ?_
 case ch1=>go_simp
 case ch2=>go_simp
 intro w4 hb4 hk4
 have JA:=acD (HB3.out.spl hk4 xI.out)
 have HB4:=JA
 have hb':=hb4.out
 rw [HSP.out] at hb'
 have HFIN:=acD hb'
 have HRZ:=acD (Below.blk hk4 FY.out (by omega))
 clear hb4 hk4 hb' had
 refine hK.out _ _ (HB4.out) (fun hHeld=>?_)
 clear hK K
 (try simp only [Act.put])
 refine wpAnyH_done (by kernel_rfl) ?_ _
 (try simp only [Exit.then])
 go_wp2_with (first|((with_reducible refine aS 8 ?_);refine ak rfl 108 _ rfl (w.heap.size+1) 0 _ 108 (0,0) _ HFIN.out rfl .u8 nn (au _ _) Tryd.underlying108 rfl (by rw [yt.out];exact vC) ?_)|((with_reducible show wpList _ _ _ (Oper.mk none _ _ _ _ _ :: _) _ _);refine ah rfl 108 _ _ rfl w.heap.size _ _ 108 HRZ.out rfl rfl (by rw [aD,aD,yt.out,uT.out]) (Jt nn yt.out) (av _ _) ?_;intro w3 hb3 hk3 hz3;have HR3:=acD hb3;have HB3:=acD ((HW.out.trans (JA.out.toBelow HW.out.size (by rintro i rfl;omega))).trans (hk3.toBelow (acJ HW.out.size (JA.out.size)) (by rintro i rfl;exact acF _)));clear hb3 hk3 hz3))
 (try simp only [Exit.inBlock,Exit.then])
 refine bodyPost_ret (results_cell_row rfl _ _ w.heap.size 108 _ (0,0) _ rfl HR3.out Tryd.underlying108 rfl (Jt nn yt.out)) rfl ?_
 exact ⟨rfl,HB3.out⟩
end Go.Proofs.YthdgbgleklkaiaaDoor.Im
namespace Go.Proofs.YthdgbgleklkaiaaDoor.Im
open Go.RowKit Lm Po Ch Ae
def jF (v i:Int) (n:Nat):Bool:=KO v i && decide (n=64)
def oC (key:List Int) (v i:Int) (p:List Int):List Int:=if jF v i p.length then lV key (iH i) p (iV v) else []
def oD (v i:Int) (p:List Int):Int:=if jF v i p.length then 0 else 1
theorem z8 {v i:Int}:KO v i=true↔(0≤v∧v≤2147483647∧0≤i∧i < 32):=by simp [KO]
theorem mayB_no {v i:Int} (h:¬ (0≤v∧v≤2147483647∧0≤i∧i < 32)):KO v i=false:=by simp only [KO];exact decide_eq_false h
theorem nO (key xs:List Int) (v i:Int) (sp:Option Addr) (n cp:Nat) (w:World) (hk:key.length=32) (bk:bytes key) (hs:Src w sp n xs) (kc:n≤cp) :
  Calls Tryd.prog 44 #[.agg (arr .u8 key), .int .i64 v, .int .i64 i, .slice sp n cp] w fun e w'=>∃ u,e = .returned (.tuple #[u, .int .i64 (oD v i xs)])∧aU w' w.heap.size u (oC key v i xs)∧Below w.heap.size w w':=by
 have hl:=hs.len
 have hbw:=(Below.refl _ w).alloc (acF _) (.cells (arr .u8 key) 23)
 have HW:=acD hbw
 by_cases h0:(0≤v∧v≤2147483647∧0≤i∧i < 32)
 ·by_cases h1:n=64
  ·subst h1
   have HM:=acD (fun w=>(show mq v=true by simp only [mq];exact decide_eq_true ⟨h0.1,h0.2.1⟩)▸gT v w)
   have hE:jF v i xs.length=true:=by simp [jF,z8.2 h0,hl]
   unfold oD oC
   rw [hE,if_pos rfl,if_pos rfl]
   clear hE
   have hnl:=xu i
   have hnb:=CX i
   have hbl:=fU v
   have hbb:=lq v
   have MN:=fun w=>Kr i w ⟨by omega,by omega⟩
   have MP:=fun w=>gu v w ⟨by omega,by omega⟩
   have MS:=fun w s c h1 h2=>Dr key (iH i) xs (iV v) sp s 64 8 cp c w hk hnl bk hnb h1 h2 hbb (by decide) (by decide)
   obtain ⟨nn,hnn⟩:∃ x,x=iH i:=⟨_,rfl⟩
   obtain ⟨b8,jP⟩:∃ x,x=iV v:=⟨_,rfl⟩
   rw [← hnn] at hnl MN MS ⊢
   rw [← jP] at hbl MP MS ⊢
   obtain ⟨tx,htx⟩:∃ x,x=lV key nn xs b8:=⟨_,rfl⟩
   rw [← htx] at MS ⊢
   have hr0:=aG w (.cells (arr .u8 key) 23)
   have dZ:=acD hr0
   have HX:=acD (hs.below hbw)
   have kU:=acD hk
   have q8:=acD hbl
   have HMN:=acD MN
   have HMP:=acD MP
   have F3:=acD MS
   obtain ⟨h00,h01,h02,h03⟩:=h0
   have h03':i≤31:=by omega
   have q0:decide (i < 0)=false:=decide_eq_false (by omega)
   have q1:decide (31 < i)=false:=decide_eq_false (by omega)
   clear hr0 hs hk bk hnl hnb hbl hbb MN MP MS hnn jP htx hl hbw
   go_enter Tryd.func44, Tryd.ntmps44
   go_upto_region 3 with (first|((with_reducible show Calls _ _ _ _ _);go_at_call 25; refine (HM.out _).mono ?_;rintro e w1 ⟨rfl,rfl⟩))
   generalize w.alloc (.cells (arr .u8 key) 23)=wq at dZ HX HW ⊢
   have hdr:Below wq.heap.size wq wq.drew:=⟨rfl,rfl,rfl,acF _,fun _ _=>rfl⟩
   have HX:=acD (HX.out.below hdr)
   clear hdr
   have HB0:=acD (show Below wq.heap.size wq wq.drew from ⟨rfl,rfl,rfl,acF _,fun _ _=>rfl⟩)
   refine wp_region_held_drew (S:=(fun w'=>Go.RowKit.Below wq.heap.size wq w')) (by kernel_rfl) (HB0.out) (fun hHeld=>?_)
   obtain ⟨wv,hwv⟩:∃ x,x=wq.drew:=⟨_,rfl⟩
   rw [← hwv] at HB0 hHeld HX ⊢
   clear hwv
   refine' wpAnyH_take (i:=0) (oi:=(⟨some 26,_,_,_,_,none⟩:Oper)) (v:=_) rfl (by kernel_rfl) (by kernel_rfl) (by kernel_rfl) (fun _ _ _ h=>h) (yieldsIf_load_mid (by rfl) _ _ rfl _ _ rfl (key.map (Value.int .u8)) _ ?hS2001 Tryd.underlying23 rfl (by rw [acG,kU.out];exact rR)) (by assumption) ?rest2001
   case hS2001=>(intro w hSw;exact aN (Below.blk hSw dZ.out (aO dZ.out)) 0 _ (by rw [acG];exact au _ _))
   (try simp only [Act.put,sA,sZ,sS])
   refine wpAnyH_take (i:=1) (oi:=(⟨some 27,_,_,_,_,none⟩:Oper)) (v:=?v2002) rfl (by kernel_rfl) (by kernel_rfl) (by kernel_rfl) (fun _ _ _ h=>h) (Or.inl ⟨by rfl,?hy2002⟩) (by assumption) ?rest2002
   case hy2002=>(intro w hSw;(try dsimp only at hSw);go_simp;try (with_reducible rfl))
   (try simp only [Act.put,sA,sZ,sS])
   refine wpAnyH_take (i:=3) (oi:=(⟨some 29,_,_,_,_,none⟩:Oper)) (v:=?v2003) rfl (by kernel_rfl) (by kernel_rfl) (by kernel_rfl) (fun _ _ _ h=>h) (Or.inl ⟨by rfl,?hy2003⟩) (by assumption) ?rest2003
   case hy2003=>(intro w hSw;(try dsimp only at hSw);go_simp;try (with_reducible rfl))
   (try simp only [Act.put,sA,sZ,sS])
   refine wpAnyH_take (i:=4) (oi:=(⟨some 30,_,_,_,_,none⟩:Oper)) (v:=?v2004) rfl (by kernel_rfl) (by kernel_rfl) (by kernel_rfl) (fun _ _ _ h=>h) (Or.inl ⟨by rfl,?hy2004⟩) (by assumption) ?rest2004
   case hy2004=>(intro w hSw;(try dsimp only at hSw);go_simp;try (with_reducible rfl))
   (try simp only [Act.put,sA,sZ,sS])
   refine wpAnyH_ready (rs:=[2]) (by kernel_rfl) (by simp) ?_
   refine AllReadyH.cons (o:=(⟨some 28,_,_,_,_,none⟩:Oper)) rfl (fun K hK=>?_) AllReadyH.nil
   go_simp
   go_at_call 59
   refine (HMN.out _).mono ?_
   rintro e w2005 ⟨rfl,Ap⟩
   have Ot:=acD (HB0.out.trans (Ap.mono HB0.out.size))
   have HX:=acD (HX.out.below Ap)
   (try (have HA:=acD (HA.out.below Ap)))
   (try (have HS2:=acD (HS2.out.below Ap)))
   clear Ap
   (try dsimp only)
   refine hK.out _ _ (Ot.out) (fun hHeld=>?_)
   clear hK K
   (try simp only [Act.put,sA,sZ,sS])
   refine wpAnyH_ready (rs:=[5]) (by kernel_rfl) (by simp) ?_
   refine AllReadyH.cons (o:=(⟨some 31,_,_,_,_,none⟩:Oper)) rfl (fun K hK=>?_) AllReadyH.nil
   go_simp
   go_at_call 30
   refine (HMP.out _).mono ?_
   rintro e w2006 ⟨v2,rfl,ho2,L9⟩
   have Gq:=acD (Ot.out.trans (L9.mono Ot.out.size))
   obtain ⟨s2,c2,hv2,hc2, -, hs2, -⟩:=ho2.form
   rw [q8.out] at hv2 hs2 hc2
   subst hv2
   have HS2:=acD hs2
   have Og:=acD hc2
   clear ho2 hs2 hc2
   have HX:=acD (HX.out.below L9)
   clear L9
   (try dsimp only)
   refine hK.out _ _ (Gq.out) (fun hHeld=>?_)
   clear hK K
   (try simp only [Act.put,sA,sZ,sS])
   refine wpAnyH_ready (rs:=[6]) (by kernel_rfl) (by simp) ?_
   refine AllReadyH.cons (o:=(⟨some 32,_,_,_,_,none⟩:Oper)) rfl (fun K hK=>?_) AllReadyH.nil
   go_simp
   go_at_call 53
   refine (F3.out _ _ _ HX.out HS2.out).mono ?_
   rintro e w2007 ⟨v3,rfl,ho3,YJ⟩
   have HB2007:=acD (Gq.out.trans (YJ.mono Gq.out.size))
   have HO3:=acD (ho3.mono (B':=w.heap.size) (acJ HW.out.size Gq.out.size))
   clear ho3
   clear YJ
   (try dsimp only)
   refine hK.out _ _ (HB2007.out) (fun hHeld=>?_)
   clear hK K
   (try simp only [Act.put,sA,sZ,sS])
   refine wpAnyH_take (i:=7) (oi:=(⟨some 8,_,_,_,_,none⟩:Oper)) (v:=?v2008) rfl (by kernel_rfl) (by kernel_rfl) (by kernel_rfl) (fun _ _ _ h=>h) (Or.inl ⟨by rfl,?hy2008⟩) (by assumption) ?rest2008
   case hy2008=>(intro w hSw;(try dsimp only at hSw);go_simp;try (with_reducible rfl))
   (try simp only [Act.put,sA,sZ,sS])
   refine wpAnyH_take (i:=8) (oi:=(⟨some 9,_,_,_,_,none⟩:Oper)) (v:=?v2009) rfl (by kernel_rfl) (by kernel_rfl) (by kernel_rfl) (fun _ _ _ h=>h) (Or.inl ⟨by rfl,?hy2009⟩) (by assumption) ?rest2009
   case hy2009=>(intro w hSw;(try dsimp only at hSw);go_simp;try (with_reducible rfl))
   (try simp only [Act.put,sA,sZ,sS])
   refine wpAnyH_done (by kernel_rfl) ?_ _
   (try simp only [Exit.then])
   go_wp2_with fail
   go_ret2
   exact ⟨_,rfl,HO3.out,HW.out.trans (HB2007.out.mono HW.out.size)⟩
  ·have hn:((n:Int) == 64)=false:=by rw [beq_eq_false_iff_ne];omega
   have hy:KO v i=true:=z8.2 h0
   have HM:=acD (fun w=>(show mq v=true by simp only [mq];exact decide_eq_true ⟨h0.1,h0.2.1⟩)▸gT v w)
   obtain ⟨h00,h01,h02,h03⟩:=h0
   have h03':i≤31:=by omega
   have q0:decide (i < 0)=false:=decide_eq_false (by omega)
   have q1:decide (31 < i)=false:=decide_eq_false (by omega)
   have hE:oD v i xs=1:=by simp [oD,jF,hy,hl,h1]
   have hX:oC key v i xs=[]:=by simp [oC,jF,hy,hl,h1]
   rw [hE,hX]
   clear hE hX hk bk
   go_enter Tryd.func44, Tryd.ntmps44
   go_wp2_with (first|((with_reducible show Calls _ _ _ _ _);go_at_call 25; refine (HM.out _).mono ?_;rintro e w1 ⟨rfl,rfl⟩))
   go_ret2
   exact ⟨_,rfl,aU.nil _ _,HW.out⟩
 ·have hy:KO v i=false:=mayB_no h0
  by_cases h2:(0≤v∧v≤2147483647)
  ·have HM:=acD (fun w=>(show mq v=true by simp only [mq];exact decide_eq_true h2)▸gT v w)
   by_cases h3:i < 0
   ·skip
    have hE:oD v i xs=1:=by simp [oD,jF,hy]
    have hX:oC key v i xs=[]:=by simp [oC,jF,hy]
    rw [hE,hX]
    clear hE hX hk bk
    go_enter Tryd.func44, Tryd.ntmps44
    go_wp2_with (first|((with_reducible show Calls _ _ _ _ _);go_at_call 25; refine (HM.out _).mono ?_;rintro e w1 ⟨rfl,rfl⟩))
    go_ret2
    exact ⟨_,rfl,aU.nil _ _,HW.out⟩
   ·have h3':0≤i:=by omega
    have h4:31 < i:=by omega
    have q0:decide (i < 0)=false:=decide_eq_false h3
    clear h0
    have hE:oD v i xs=1:=by simp [oD,jF,hy]
    have hX:oC key v i xs=[]:=by simp [oC,jF,hy]
    rw [hE,hX]
    clear hE hX hk bk
    go_enter Tryd.func44, Tryd.ntmps44
    go_wp2_with (first|((with_reducible show Calls _ _ _ _ _);go_at_call 25; refine (HM.out _).mono ?_;rintro e w1 ⟨rfl,rfl⟩))
    go_ret2
    exact ⟨_,rfl,aU.nil _ _,HW.out⟩
  ·have HM:=acD (fun w=>(show mq v=false by simp only [mq];exact decide_eq_false h2)▸gT v w)
   have hE:oD v i xs=1:=by simp [oD,jF,hy]
   have hX:oC key v i xs=[]:=by simp [oC,jF,hy]
   rw [hE,hX]
   clear hE hX hk bk
   go_enter Tryd.func44, Tryd.ntmps44
   go_wp2_with (first|((with_reducible show Calls _ _ _ _ _);go_at_call 25; refine (HM.out _).mono ?_;rintro e w1 ⟨rfl,rfl⟩))
   go_ret2
   exact ⟨_,rfl,aU.nil _ _,HW.out⟩
end Go.Proofs.YthdgbgleklkaiaaDoor.Im
