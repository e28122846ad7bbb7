/- The document's SignManifest: A region of which the operations come in their listed order, told in symbols. The document's SameManifest of two manifests that are one. Condition: as each theorem says. -/

import Derived.Test.YthdgbgleklkaiaaDoorQa22
import Derived.Test.YthdgbgleklkaiaaDoorQa23
import Derived.Test.YthdgbgleklkaiaaDoorQa33
import Derived.Test.YthdgbgleklkaiaaDoorQa34
set_option linter.unusedSimpArgs false
set_option linter.unusedVariables false
set_option maxRecDepth 100000
set_option maxHeartbeats 16000000
namespace Go.Proofs.YthdgbgleklkaiaaDoor.Mf
open Go.RowKit Lm Fp Cu Sl Sc Ce
theorem JC {sd ro ks gs ss ws:List Int} (seed:Nat) (v b i:Int) (sw:Option Addr) (nw cw:Nat) (w:World) (hsd:Mt sd seed) (h1:ro.length=32) (h2:ks.length=32) (h3:gs.length=64) (h4:ss.length=64) (hws:Src w sw nw ws) (b1:bytes ro) (b2:bytes ks) (b3:bytes gs) (b4:bytes ws) (hT:Mk w) :
  Calls Tryd.prog 37 #[.agg (arr .u8 sd), .agg (aZ v b ro (.slice sw nw cw) i ks gs ss)] w fun e w'=>∃ M E,e = .returned (.tuple #[.agg M, .int .i64 E])∧((iJ v b nw i=true∧E=0∧∃ s c,M=aZ v b ro (.slice s nw c) i ks gs (ko seed (dF v b ro ws i ks gs))∧aV w' w.heap.size (.slice s nw c) ws)∨(iJ v b nw i=false∧E=1∧M=gU))∧Below w.heap.size w w':=by
 have hwl:=hws.len
 have Ja:=fun (u:World) (k:Src u sw nw ws)=>Cj (ks:=ks) (gs:=gs) (ss:=ss) v b i sw nw cw u h1 h2 h3 h4 k
 have SF:=bL (v:=v) (b:=b) (i:=i) (wv := .slice sw nw cw) h1 h2 h3 h4
 have m34:=gI (v:=v) (b:=b) (i:=i) (ks:=ks) (gs:=gs) (ss:=ss) (wv := .slice sw nw cw) h1
 have hbb:bytes (dF v b ro ws i ks gs):=by
  unfold dF
  intro x hx
  rcases List.mem_append.1 hx with hx|hx
  ·rcases List.mem_append.1 hx with hx|hx
   ·refine jN ?_ x hx
    intro y hy
    rcases List.mem_append.1 hy with hy|hy
    ·rcases List.mem_append.1 hy with hy|hy
     ·exact jN (by unfold bytes;decide) y hy
     ·exact b1 y hy
    ·exact b4 y hy
   ·exact b2 x hx
  ·exact b3 x hx
 have hset:∀ x:Value,(aZ v b ro (.slice sw nw cw) i ks gs ss).setIfInBounds 34 x=aZ v b ro x i ks gs ss:=fun x=>kY h1 x
 have hput:∀ (x:Value) (g2:List Int),g2.length=64→((aZ v b ro x i ks gs ss).toList.take 132 ++ (arr .u8 g2).toList ++ (aZ v b ro x i ks gs ss).toList.drop (132+(arr .u8 g2).size)).toArray=aZ v b ro x i ks gs g2:=fun x g2 hg=>wM h1 h2 h3 h4 hg
 have hsz2:∀ (x:Value) (g2:List Int),g2.length=64→(aZ v b ro x i ks gs g2).size=196:=fun x g2 hg=>bL h1 h2 h3 hg
 obtain ⟨M,hM⟩:∃ M,M=aZ v b ro (.slice sw nw cw) i ks gs ss:=⟨_,rfl⟩
 rw [← hM] at Ja SF m34 hset ⊢
 obtain ⟨mz,hmz⟩:∃ m,m=gU:=⟨_,rfl⟩
 rw [← hmz]
 have HZM:Hid (mz.size=196):=Lib.hid (by rw [hmz];exact bL rfl rfl rfl rfl)
 have HZO:Hid (mz.all (·.oneCell')=true):=Lib.hid (by rw [hmz];exact iO rfl)
 have Pn:Hid ((Tryd.prog.info? 30).map (·.size)=some mz.size):=Lib.hid (by rw [HZM.out];exact dH)
 have HZ:Hid (∀ w,(zeroValue 30).run Tryd.prog w = .ok (.agg mz) w):=Lib.hid (by rw [hmz];exact mo)
 have HZ0:Hid (∀ w,(Instr.build 30 #[]).run Tryd.prog w = .ok (.agg mz) w):=Lib.hid (by rw [hmz];exact Ac)
 have MG:Hid ((Tryd.prog.info? 30).map (·.size)=some M.size):=Lib.hid (by rw [SF];exact dH)
 have HSL:=Lib.hid hsd.len
 have hb0:=(((Below.refl _ w).alloc (Nat.le_refl _) (.cells (arr .u8 sd) 23)).alloc (by simp) (.cells M 30)).alloc (by simp;omega) (.cells mz 30)
 have HG0:Hid ((((w.alloc (.cells (arr .u8 sd) 23)).alloc (.cells M 30)).alloc (.cells mz 30)).heap[w.heap.size]? = some (.cells (arr .u8 sd) 23 (0,0))):=Lib.hid (bf (bf (aL w _) _) _)
 have rZ:Hid ((((w.alloc (.cells (arr .u8 sd) 23)).alloc (.cells M 30)).alloc (.cells mz 30)).heap[w.heap.size+1]? = some (.cells M 30 (0,0))):=Lib.hid (by have:=bf (aL (w.alloc (.cells (arr .u8 sd) 23)) (.cells M 30)) (.cells mz 30);rwa [World.size_alloc] at this)
 have HG2:Hid ((((w.alloc (.cells (arr .u8 sd) 23)).alloc (.cells M 30)).alloc (.cells mz 30)).heap[w.heap.size+1+1]? = some (.cells mz 30 (0,0))):=Lib.hid (by have:=aL ((w.alloc (.cells (arr .u8 sd) 23)).alloc (.cells M 30)) (.cells mz 30);rwa [World.size_alloc,World.size_alloc] at this)
 have HB:=Lib.hid hb0
 have Dj:=Lib.hid (hws.below hb0)
 have og:Hid (w.heap.size+1+1 < (((w.alloc (.cells (arr .u8 sd) 23)).alloc (.cells M 30)).alloc (.cells mz 30)).heap.size):=Lib.hid (by simp)
 cases hm:iJ v b nw i with
 | false =>
  rw [hm] at Ja
  have PX:=Lib.hid Ja
  clear hwl Ja SF m34 hbb hset hput hsz2 hM hmz hb0 hsd h1 h2 h3 h4 hws b1 b2 b3 b4 hT hm
  simp only [Bool.false_eq_true,false_and,false_or,true_and]
  go_enter Tryd.func37, Tryd.ntmps37
  go_upto_region 1 with ((with_reducible refine aS 4 ?_);refine aj rfl 30 rfl _ (HZ.out _) ?_)
  (try simp only [World.size_alloc,Act.put,sA,sZ,sS])
  generalize (((w.alloc (.cells (arr .u8 sd) 23)).alloc (.cells M 30)).alloc (.cells mz 30))=wb at HG0 rZ HG2 HB Dj og ⊢
  go_wp2_with (first|((with_reducible refine aS 9 ?_);refine wpList_load_row rfl 30 _ rfl (w.heap.size+1) rfl 30 _ (0,0) _ rZ.out Tryd.underlying30 rfl MG.out ?_)|((with_reducible show Calls _ 12 _ _ _);go_at_call 12; refine (PX.out _ Dj.out).mono ?_;rintro e w1 ⟨v1,rfl,ho,hb1⟩;have HB1:=Lib.hid hb1;have HR1:=Lib.hid (Below.blk hb1 HG2.out og.out);clear ho hb1)|((with_reducible refine aS 15 ?_);refine wpList_build (by rfl) 30 _ rfl #[] rfl _ (HZ0.out _) ?_)|((with_reducible refine aT 4 ?_);refine ah rfl 30 _ _ rfl (w.heap.size+1+1) _ _ 30 HR1.out rfl rfl rfl Pn.out HZO.out ?_;intro w2 hb hk hz;have HB2:=Lib.hid hb;have IK:=Lib.hid hk;clear hb hk hz))
  all_goals (try simp only [Exit.then])
  refine bodyPost_ret (aP rfl _ _ (w.heap.size+1+1) 30 _ (0,0) _ _ rfl HB2.out Tryd.underlying30 rfl Pn.out rfl) rfl ?_
  exact ⟨_,_,rfl,⟨rfl,rfl⟩,HB.out.trans ⟨IK.out.os.trans HB1.out.os,IK.out.tape.trans HB1.out.tape,IK.out.output.trans HB1.out.output,Nat.le_trans HB1.out.size IK.out.size,fun k hk=>(IK.out.block k (Nat.lt_of_lt_of_le (Nat.lt_of_lt_of_le hk HB.out.size) HB1.out.size) (fun e=>by have e:k=w.heap.size+1+1:=e;omega)).trans (HB1.out.block k (Nat.lt_of_lt_of_le hk HB.out.size))⟩⟩
 | true =>
  obtain rfl:nw=80:=by
   simp only [iJ,Bool.and_eq_true,decide_eq_true_eq] at hm
   exact hm.1.2
  rw [hm] at Ja
  have hbl:(dF v b ro ws i ks gs).length=236:=by
   rw [dF,List.length_append,List.length_append,fU,List.length_append,List.length_append,fU,h1,h2,h3,hwl]
   rfl
  have hsg:=fun (u:World) (s:Option Addr) (c:Nat) (k:Src u s 236 (dF v b ro ws i ks gs)) (kc:236≤c) (t:Mk u)=>Rd.Cc seed s 236 c u k kc hbb (by decide) t.d t.x t.y t.q t.k
  rw [show n32 seed=sd by rw [n32,← hsd.1]] at hsg
  have hgl:(ko seed (dF v b ro ws i ks gs)).length=64:=gN _ _
  have Z5:=Lib.hid (fun (u:World) (k:Below w.heap.size w u)=>Mk.below hT k)
  generalize ko seed (dF v b ro ws i ks gs)=sg at hsg hgl ⊢
  generalize dF v b ro ws i ks gs=T at Ja hbl hsg
  have PX:=Lib.hid Ja
  have sD:=Lib.hid hbl
  have HSG:=Lib.hid hsg
  have SY:=Lib.hid hgl
  have pY:=Lib.hid m34
  have HSET:=Lib.hid hset
  have HPUT:Hid (∀ x:Value,((aZ v b ro x i ks gs ss).toList.take 132 ++ (arr .u8 sg).toList ++ (aZ v b ro x i ks gs ss).toList.drop (132+(arr .u8 sg).size)).toArray=aZ v b ro x i ks gs sg):=Lib.hid (fun x=>hput x sg hgl)
  have MB:Hid (∀ x:Value,132+(arr .u8 sg).size≤(aZ v b ro x i ks gs ss).size):=Lib.hid (fun x=>by rw [aF,hgl,hsz2 x ss h4];omega)
  have F6:Hid (∀ x:Value,(Tryd.prog.info? 30).map (·.size)=some (aZ v b ro x i ks gs sg).size):=Lib.hid (fun x=>by rw [hsz2 x sg hgl];exact dH)
  have HFS:Hid (∀ x:Value,(aZ v b ro x i ks gs sg).size=mz.size):=Lib.hid (fun x=>by rw [hsz2 x sg hgl,HZM.out])
  have HFO:Hid (∀ s c,(aZ v b ro (.slice s 80 c) i ks gs sg).all (·.oneCell')=true):=Lib.hid (fun s c=>iO rfl)
  have vN:=Lib.hid hwl
  clear hwl Ja SF m34 hbb hset hput hsz2 hM hmz hb0 hsd h1 h2 h3 h4 hws b1 b2 b3 b4 hT hm hbl hsg hgl
  simp only [Bool.true_eq_false,false_and,or_false,true_and]
  go_enter Tryd.func37, Tryd.ntmps37
  go_upto_region 1 with ((with_reducible refine aS 4 ?_);refine aj rfl 30 rfl _ (HZ.out _) ?_)
  (try simp only [World.size_alloc,Act.put,sA,sZ,sS])
  generalize (((w.alloc (.cells (arr .u8 sd) 23)).alloc (.cells M 30)).alloc (.cells mz 30))=wb at HG0 rZ HG2 HB Dj og ⊢
  go_upto_region 5 with (first|((with_reducible refine aS 9 ?_);refine wpList_load_row rfl 30 _ rfl (w.heap.size+1) rfl 30 _ (0,0) _ rZ.out Tryd.underlying30 rfl MG.out ?_)|((with_reducible show Calls _ 12 _ _ _);go_at_call 12; refine (PX.out _ Dj.out).mono ?_;rintro e w1 ⟨v1,rfl,ho,hb1⟩;have HV1:Hid (aV w1 wb.heap.size v1 T):=Lib.hid ho;have HB1:=Lib.hid hb1;have HSW1:=Lib.hid (Dj.out.below hb1);have sH:w1.cell? ⟨w.heap.size+1,34,none⟩=some (.slice sw 80 cw):=(by rw [aG (Below.blk hb1 rZ.out (aR rZ.out))];exact pY.out);clear ho hb1)|((with_reducible refine aS 19 ?_);refine aO rfl (.const (.slice none 0 0)) (.tmp 18) rfl wb.heap.size (.slice none 0 0) [] rfl (aV.nil _ _) sw 80 cw ws rfl HSW1.out (by decide) HB1.out.size ?_;intro v2 w2 how hgr _ _;have hab:=aQ (aV.nil _ _) hgr (Below.refl w1.heap.size w1) (Nat.le_refl _);have HB2:=Lib.hid (HB1.out.trans (hab.mono HB1.out.size));have BM:Hid (aV w2 wb.heap.size v2 ws):=Lib.hid how;have HV2:=Lib.hid (HV1.out.below hab);have PD:=Lib.hid (Below.blk HB2.out rZ.out (aR rZ.out));have cc2:w2.cell? ⟨w.heap.size+1,34,none⟩=some (.slice sw 80 cw):=(by rw [aG PD.out];exact pY.out);have cc3:w2.frozen? ⟨w.heap.size+1,34,none⟩=false:=aC PD.out 34;obtain ⟨s2,c2,hv2, -⟩:=BM.out.form;rw [vN.out] at hv2;subst hv2;clear sH how hgr hab))
  obtain ⟨w3,hw⟩:∃ x,x=w2.setCell ⟨w.heap.size+1,34,none⟩ (.slice s2 80 c2):=⟨_,rfl⟩
  rw [← hw]
  have HM3:Hid (w3.heap[w.heap.size+1]? = some (.cells (aZ v b ro (.slice s2 80 c2) i ks gs ss) 30 (0,0))):=Lib.hid (by rw [hw,bC PD.out,HSET.out])
  have hk3:Kept (fun x=>x=w.heap.size+1) w2 w3:=by rw [hw];exact (Kept.refl _ _).at _ _
  have HK3:=Lib.hid hk3
  have F3:=Lib.hid (hk3.blk (Below.blk HB2.out HG0.out (by have:=og.out;omega)) (by omega))
  have HR3:=Lib.hid (hk3.blk (Below.blk HB2.out HG2.out og.out) (by omega))
  have HO3:=Lib.hid (BM.out.kept hk3 (fun k e he=>by have:=BM.out.lt k e;have:=og.out;omega))
  have HV3:=Lib.hid (HV2.out.kept hk3 (fun k e he=>by have:=HV2.out.lt k e;have:=og.out;omega))
  obtain ⟨sv,cv,hvv,kcv, -, hsv, -⟩:=HV3.out.form
  rw [sD.out] at hvv hsv kcv
  subst hvv
  have HSV:=Lib.hid hsv
  have HCV:=Lib.hid kcv
  have HB3:Hid (Below w.heap.size w w3):=Lib.hid (HB.out.trans ⟨hk3.os.trans HB2.out.os,hk3.tape.trans HB2.out.tape,hk3.output.trans HB2.out.output,Nat.le_trans HB2.out.size hk3.size,fun k hk=>(hk3.block k (Nat.lt_of_lt_of_le (Nat.lt_of_lt_of_le hk HB.out.size) HB2.out.size) (fun e=>by have e:k=w.heap.size+1:=e;omega)).trans (HB2.out.block k (Nat.lt_of_lt_of_le hk HB.out.size))⟩)
  clear hw cc2 cc3 hk3 hsv kcv BM PD HV2 HV3
  go_wp2_with (first|((with_reducible refine aS 21 ?_);refine ak rfl 23 _ rfl (w.heap.size) 0 _ 23 (0,0) _ F3.out rfl .u8 sd (au _ _) Tryd.underlying23 rfl (Sl.bU HSL.out) ?_)|((with_reducible show Calls _ 46 _ _ _);go_at_call 46; refine (HSG.out _ _ _ HSV.out HCV.out (Z5.out _ HB3.out)).mono ?_;rintro e w4 ⟨rfl,hb4⟩;have HM4:=Lib.hid (Below.blk hb4 HM3.out (aR HM3.out));have HR4:=Lib.hid (Below.blk hb4 HR3.out (aR HR3.out));have HO4:=Lib.hid (HO3.out.below hb4);have qE:=Lib.hid (HB3.out.trans (hb4.mono HB3.out.size));clear hb4)|((with_reducible refine aT 24 ?_);refine bq rfl 26 _ _ rfl (w.heap.size+1) 132 _ (arr .u8 sg) 30 HM4.out rfl rfl (MB.out _) (Sl.kS SY.out) (av _ _) ?_;intro w5 hb hk hz;rw [HPUT.out] at hb;have HM5:=Lib.hid hb;have EY:=Lib.hid (hk.blk HR4.out (by omega));have Sv:=Lib.hid (HO4.out.kept hk (fun k e he=>by have:=HO4.out.lt k e;have:=og.out;omega));have gu:Hid (Below w.heap.size w w5):=Lib.hid (qE.out.trans ⟨hk.os,hk.tape,hk.output,hk.size,fun k hk2=>hk.block k (Nat.lt_of_lt_of_le hk2 qE.out.size) (fun e=>by have e:k=w.heap.size+1:=e;omega)⟩);clear hb hk hz)|((with_reducible refine aS 25 ?_);refine wpList_load_row rfl 30 _ rfl (w.heap.size+1) rfl 30 _ (0,0) _ HM5.out Tryd.underlying30 rfl (F6.out _) ?_)|((with_reducible refine aT 4 ?_);refine ah rfl 30 _ _ rfl (w.heap.size+1+1) _ _ 30 EY.out rfl rfl (HFS.out _) (F6.out _) (HFO.out _ _) ?_;intro w6 hb hk hz;have kQ:=Lib.hid hb;have HK6:=Lib.hid hk;clear hb hk hz))
  all_goals (try simp only [Exit.then])
  refine bodyPost_ret (aP rfl _ _ (w.heap.size+1+1) 30 _ (0,0) _ _ rfl kQ.out Tryd.underlying30 rfl (F6.out _) rfl) rfl ?_
  exact ⟨_,_,rfl,⟨rfl,s2,c2,rfl,(Sv.out.kept HK6.out (fun k e he=>by have:=Sv.out.lt k e;have:=og.out;omega)).mono HB.out.size⟩,gu.out.trans ⟨HK6.out.os,HK6.out.tape,HK6.out.output,HK6.out.size,fun k hk=>HK6.out.block k (Nat.lt_of_lt_of_le hk gu.out.size) (fun e=>by have e:k=w.heap.size+1+1:=e;omega)⟩⟩
end Go.Proofs.YthdgbgleklkaiaaDoor.Mf
namespace Go.Proofs.YthdgbgleklkaiaaDoor
open Go.RowKit
section
end
section
variable {P:Program} {Q:Exit→Act→World→Prop}
theorem wW {id:Nat} {a:Act} {w:World} {l:List Oper} (J:Fill→World→Prop) (hB:(Cx l a.tmps.size && Ir l)=true)
  (h0:J (fun _=>none) w) (hs:dK P Q l J a l 0)
  (hend:∀ f u,(∀ i,i < l.length→(f i).isSome=true)→J f u→Q .normal (laid l 0 f a) u):(Code.region id l.toArray false).wp P Q a w:=by
 refine wp_region_lit ?_
 simp only [Cx,Bool.and_eq_true,List.all_eq_true] at hB
 obtain ⟨⟨hg,hd⟩,hbk⟩:=hB
 have hback:∀ i o,l[i]? = some o→∀ e∈o.after,Region.binds .any e=true→e.on < i:=by
  intro i o ho e he hb
  have hlt:i < l.length:=(List.getElem?_eq_some_iff.1 ho).1
  have h1:=List.all_eq_true.1 hbk i (List.mem_range.2 hlt)
  rw [ho] at h1
  have h2:=Array.all_eq_true_iff_forall_mem.1 h1 e he
  simpa [hb] using h2
 have main:∀ (r:List Oper) (k:Nat) (f:Fill) (u:World),l.drop k=r→(∀ i,(f i).isSome=decide (i < k))→Closed l f→J f u→wpList P l.toArray Q r (laid l 0 f a) u:=by
  intro r
  induction r with
  | nil =>
   intro k f u hr hf hcl hJ
   have hk:l.length≤k:=by simpa using hr
   exact hend f u (fun i hi=>by rw [hf i];exact decide_eq_true (by omega)) hJ
  | cons o r ih =>
   intro k f u hr hf hcl hJ
   have ho:l[k]? = some o:=by
    have h1:(l.drop k)[0]? = some o:=by rw [hr];rfl
    rwa [List.getElem?_drop,Nat.add_zero] at h1
   have hr':l.drop (k+1)=r:=by
    have h1:(l.drop k).drop 1=r:=by rw [hr];rfl
    rwa [List.drop_drop] at h1
   have hfk:f k=none:=by
    cases e:f k with
    | none=>rfl
    | some v =>
     have h1:=hf k
     rw [e] at h1
     simp at h1
   have hst:=(by simpa using hs.at k o ho:mR P Q l J a k o)
   have G9:uz l f a (laid l 0 f a):=by
    refine ⟨fun j oj s v hoj hsj hv=>?_,fun s hs=>?_⟩
    ·refine tN l 0 f a j oj s v hd hoj hsj ?_ (by simpa using hv)
     have:=hg oj (List.mem_of_getElem? hoj)
     rw [hsj] at this
     exact of_decide_eq_true this
    ·refine oP l 0 f a s (fun o' ho' e=>?_)
     have:=List.all_eq_true.1 hs o' ho'
     simp [e] at this
   have hup:∀ j,dz l k j=true→(f j).isSome=true:=by
    intro j hw
    unfold dz at hw
    rw [ho] at hw
    obtain ⟨e,he,hb⟩:=Array.any_eq_true'.1 hw
    simp only [Bool.and_eq_true,beq_iff_eq] at hb
    have h2:=hback k o ho e he hb.1
    rw [← hb.2,hf]
    exact decide_eq_true h2
   have H:=hst f (laid l 0 f a) u (wpList P l.toArray Q r) hJ hfk hcl hup G9 (fun v u' hJ'=>by
    rw [tL l 0 f a k o v hd ho (by simpa using hfk),Nat.zero_add]
    refine ih (k+1) (f.upd k v) u' hr' (fun i=>?_) (fun j oj hoj hjs e he hb=>?_) hJ'
    ·by_cases e:i=k
     ·subst e
      simp [Fill.upd]
     ·simp only [Fill.upd]
      rw [if_neg e,hf i]
      by_cases h:i < k
      ·rw [decide_eq_true h,decide_eq_true (by omega)]
      ·rw [decide_eq_false h,decide_eq_false (by omega)]
    ·by_cases e2:e.on=k
     ·simp [Fill.upd,e2]
     ·have h3:(f.upd k v e.on)=f e.on:=by simp [Fill.upd,e2]
      rw [h3]
      by_cases e3:j=k
      ·subst e3
       rw [ho] at hoj
       cases hoj
       have h2:=hback j o ho e he hb
       rw [hf]
       exact decide_eq_true h2
      ·have h4:f.upd k v j=f j:=by simp [Fill.upd,e3]
       rw [h4] at hjs
       exact hcl j oj hoj hjs e he hb)
   unfold wpList
   split
   ·rename_i hw
    rw [if_pos hw] at H
    exact .inl H
   ·rename_i hw
    rw [if_neg hw] at H
    exact H
 have h:=main l 0 (fun _=>none) w rfl (fun i=>by simp) (fun i o _ h=>by cases h) h0
 have e0:laid l 0 (fun _=>none) a=a:=by
  have:∀ (l:List Oper) (k:Nat),laid l k (fun _=>none) a=a:=by
   intro l
   induction l with
   | nil=>intro k;rfl
   | cons o l ih=>intro k;simp only [laid];exact ih (k+1)
  exact this l 0
 rw [e0] at h
 exact h
end
section
variable {P:Program} {Q:Exit→Act→World→Prop} {T:Nat→Prop} {w:World} {l:List Oper} {old:List (Nat×OP)} {sy:List Sy} {pt:List Put} {a:Act}
theorem oI {id:Nat} {u0:World} (hB:(Cx l a.tmps.size && Ir l && endB l sy pt)=true) (hwf:uL l sy=true)
  (h0:Holds T w u0 fun κ=>old[κ]?) (hs:uL l sy=true→dK P Q l (fun f u=>SJ T w old sy pt f u) a l 0)
  (hend:∀ (g:Nat→Nat) (x:Nat→Value) (u:World),(∀ (k:Nat) (s:Sy) (S:Value→Prop),sy[k]? = some s→s.cl = .soft S→S (x k))→Holds T w u (CU old sy pt g)→Q .normal (lay g x l sy 0 a) u):(Code.region id l.toArray false).wp P Q a u0:=by
 rw [Bool.and_eq_true] at hB
 simp only [endB,Bool.and_eq_true,beq_iff_eq,List.all_eq_true,decide_eq_true_eq] at hB
 obtain ⟨hB1,⟨hlen,Kk⟩,hpt⟩:=hB
 refine wW (fun f u=>SJ T w old sy pt f u) (by rw [hB1.1,hB1.2];rfl) ⟨fun i v h=>by simp at h,?_,fun i v s S h e=>by simp at e⟩ (hs hwf) fun f u hall hJ=>?_
 ·have e:dQ old (sy.map Sy.sp) pt (fun _=>none)=fun κ=>old[κ]? := by
   have hn:∀ κ p,fT pt (fun _=>none) κ p=p:=by
    intro κ
    clear hpt hs hend
    induction pt with
    | nil=>intro p;rfl
    | cons e r ih =>
     intro p
     show fT r (fun _=>none) κ (if e.2.1=κ∧(none:Option Value).isSome=true then e.2.2 else p)=p
     rw [if_neg (by simp)]
     exact ih p
   funext κ
   unfold dQ jk
   by_cases hlt:κ < old.length
   ·rw [if_pos hlt]
    simp only [hn]
    cases old[κ]? <;> rfl
   ·rw [if_neg hlt,List.getElem?_eq_none (by omega:old.length≤κ)]
    split <;> simp_all
  rw [e]
  exact h0
 ·have hcl:∀ k s,sy[k]? = some s→∃ v,f k=some v∧s.cl.ok f v:=by
   intro k s hk
   obtain ⟨v,hv⟩:=sE (hall k (by rw [← hlen];exact (List.getElem?_eq_some_iff.1 hk).1))
   obtain ⟨s',hs',hok⟩:=hJ.val k v hv
   rw [hk] at hs'
   cases hs'
   exact ⟨v,hv,hok⟩
  rw [J5 (g:=fun j=>eF (f j)) (x:=fun j=>(f j).getD undef) l sy 0 a hlen fun i s hi=>?_]
  ·refine hend _ _ _ (fun k s S hk hc=>?_) ?_
   ·obtain ⟨v,hv,hok⟩:=hcl k s hk
    rw [hc] at hok
    simp only [hv,Option.getD_some]
    exact hok
   ·have e:dQ old (sy.map Sy.sp) pt f=CU old sy pt (fun j=>eF (f j)):=by
     have hp:∀ κ p,fT pt f κ p=vo pt κ p:=by
      intro κ
      unfold fT vo
      clear hJ hs hend
      induction pt with
      | nil=>intro p;rfl
      | cons e r ih =>
       intro p
       simp only [List.foldl_cons]
       have:=hall e.1 (hpt e (List.mem_cons_self ..))
       have e1:∀ p,(if e.2.1=κ∧(f e.1).isSome=true then e.2.2 else p)=if e.2.1=κ then e.2.2 else p:=by
        intro p
        by_cases h1:e.2.1=κ
        ·rw [if_pos ⟨h1,this⟩,if_pos h1]
        ·rw [if_neg (fun h=>h1 h.1),if_neg h1]
       rw [e1]
       exact ih (fun x hx=>hpt x (List.mem_cons_of_mem _ hx)) _
     funext κ
     unfold dQ jk CU
     by_cases hlt:κ < old.length
     ·rw [if_pos hlt,if_pos hlt]
      simp only [hp]
     ·rw [if_neg hlt,if_neg hlt,List.getElem?_map]
      cases hk:sy[κ - old.length]? with
      | none=>rfl
      | some s =>
       obtain ⟨v,hv,hok⟩:=hcl _ _ hk
       simp only [Option.map_some,hv,Option.bind_some,Sy.sp]
       cases ho:s.obj with
       | none=>rfl
       | some p =>
        have h1:=Kk s (List.mem_of_getElem? hk)
        rw [ho] at h1
        simp only [Option.isNone_some,Bool.false_or] at h1
        cases hx:s.cl with
        | v y=>simp [hx,CL.oU] at h1
        | soft S=>simp [hx,CL.oU] at h1
        | w S h=>simp [hx,CL.oU] at h1
        | new =>
         rw [hx] at hok
         obtain ⟨g,rfl⟩:=hok
         simp only [oO,Option.map_some,eF,hp]
        | mk n =>
         rw [hx] at hok
         obtain ⟨g,rfl⟩:=hok
         simp only [oO,Option.map_some,eF,hp]
    rw [← e]
    exact hJ.mem
  ·rw [Nat.zero_add]
   obtain ⟨v,hv,hok⟩:=hcl i s hi
   rw [hv]
   unfold Sy.at
   cases hx:s.cl with
   | v y=>rw [hx] at hok;simp only;rw [← O7];exact congrArg some hok
   | soft S=>simp [hv]
   | w S h=>simp [hv]
   | new=>rw [hx] at hok;obtain ⟨g,rfl⟩:=hok;simp [hv,eF]
   | mk n=>rw [hx] at hok;obtain ⟨g,rfl⟩:=hok;simp [hv,eF]
end
end Go.Proofs.YthdgbgleklkaiaaDoor
namespace Go.Proofs.YthdgbgleklkaiaaDoor.Mf
open Go.RowKit Lm Fp Cu Sl Sc Ce
theorem Cv {v b i:Int} {ro ks gs ss:List Int} {wv:Value} (h1:ro.length=32):∀ j x,(dh i ks gs).toList[j]? = some x→(aZ v b ro wv i ks gs ss)[35+j]? = some x:=by
 intro j x h
 have e:(aZ v b ro wv i ks gs ss).toList=(.int .i64 v :: .int .i64 b :: (ro.map (Value.int .u8) ++ [wv])) ++ ((dh i ks gs).toList ++ ss.map (Value.int .u8)):=by
  rw [bP]
  simp [dh,arr]
 have hl:(Value.int .i64 v :: Value.int .i64 b :: (ro.map (Value.int .u8) ++ [wv])).length=35:=by simp [h1]
 rw [o9 e,List.getElem?_append_right (by omega),hl,Nat.add_sub_cancel_left,List.getElem?_append_left]
 ·exact h
 ·exact (List.getElem?_eq_some_iff.1 h).1
theorem eg_num : Tryd.prog.eqGuardType Tryd.prog.depth 23 = false:=by kernel_rfl
theorem eg_sig : Tryd.prog.eqGuardType Tryd.prog.depth 26 = false:=by kernel_rfl
theorem eqn_num (H:List Int) (hl:H.length=32) (w:World):(Op.equalIn 10000 23 (.agg (arr .u8 H)) (.agg (arr .u8 H))).run Tryd.prog w = .ok true w:=by
 have:=fq (P := Tryd.prog) w 9998 23 5 32 .u8 .u8 Tryd.underlying23 Tryd.underlying5 (fun w=>by kernel_rfl) H H hl hl
 rwa [beq_self_eq_true] at this
theorem eqn_sig (H:List Int) (hl:H.length=64) (w:World):(Op.equalIn 10000 26 (.agg (arr .u8 H)) (.agg (arr .u8 H))).run Tryd.prog w = .ok true w:=by
 have:=fq (P := Tryd.prog) w 9998 26 5 64 .u8 .u8 Tryd.underlying26 Tryd.underlying5 (fun w=>by kernel_rfl) H H hl hl
 rwa [beq_self_eq_true] at this
theorem Ic {o:Oper} {ρ:Operand→Value} {ty:TypeId} {x y:Operand} {n:Int} (ho:o.op = .binOp .eql 3 x y ty) (e:[x,y].map ρ=[.int .i64 n, .int .i64 n]) (u:World):(execOp ρ o).run Tryd.prog u = .ok (.value (.bool true)) u:=by
 simp only [List.map_cons,List.map_nil,List.cons.injEq,and_true] at e
 have hq:(n == n)=true:=beq_self_eq_true n
 simp only [execOp,ho,e.1,e.2]
 go_simp
theorem Zc {o:Oper} {ρ:Operand→Value} {ty:TypeId} {x y:Operand} {S:ByteArray} (ho:o.op = .binOp .eql 9 x y ty) (e:[x,y].map ρ=[.string S, .string S]) (h:(S.toList == S.toList)=true) (u:World):(execOp ρ o).run Tryd.prog u = .ok (.value (.bool true)) u:=by
 simp only [List.map_cons,List.map_nil,List.cons.injEq,and_true] at e
 simp only [execOp,ho,e.1,e.2]
 go_simp
theorem CS {o:Oper} {ρ:Operand→Value} {x:Operand} {sa:Option Addr} {n c:Nat} {u:World} {T:List Int} {S:ByteArray} (ho:o.op = .convert 24 9 x) (e:[x].map ρ=[.slice sa n c]) (h:Src u sa n T) (hS:strOfNums T=S):(execOp ρ o).run Tryd.prog u = .ok (.value (.string S)) u:=by
 simp only [List.map_cons,List.map_nil,List.cons.injEq,and_true] at e
 have hc:=Jw (c:=c) h
 rw [hS] at hc
 simp only [execOp,ho,e]
 exact Pb hc
theorem oN {ro ks gs ss ws:List Int} (v b i:Int) (s1 s2:Option Addr) (n c1 c2:Nat) (w:World) (h1:ro.length=32) (h2:ks.length=32) (h3:gs.length=64) (h4:ss.length=64) (hs1:Src w s1 n ws) (hs2:Src w s2 n ws) :
  Calls Tryd.prog 9 #[.agg (aZ v b ro (.slice s1 n c1) i ks gs ss), .agg (aZ v b ro (.slice s2 n c2) i ks gs ss)] w fun e w'=>e = .returned (.bool true)∧Below w.heap.size w w':=by
 have HA1:=Lib.hid hs1
 have HA2:=Lib.hid hs2
 have iK:=Lib.hid h1
 have HSL:=Lib.hid h4
 have H10:=Lib.hid (uY (v:=v) (b:=b) (i:=i) (ro:=ro) (ks:=ks) (gs:=gs) (ss:=ss) (wv := .slice s1 n c1))
 have H11:=Lib.hid (lW (v:=v) (b:=b) (i:=i) (ro:=ro) (ks:=ks) (gs:=gs) (ss:=ss) (wv := .slice s1 n c1))
 have H12:=Lib.hid (Ef (v:=v) (b:=b) (i:=i) (ro:=ro) (ks:=ks) (gs:=gs) (ss:=ss) (wv := .slice s1 n c1))
 have H134:=Lib.hid (gI (v:=v) (b:=b) (i:=i) (ks:=ks) (gs:=gs) (ss:=ss) (wv := .slice s1 n c1) h1)
 have H135:=Lib.hid (Cv (v:=v) (b:=b) (i:=i) (ks:=ks) (gs:=gs) (ss:=ss) (wv := .slice s1 n c1) h1)
 have H1132:=Lib.hid (xQ (v:=v) (b:=b) (i:=i) (ss:=ss) (wv := .slice s1 n c1) h1 h2 h3)
 have H20:=Lib.hid (uY (v:=v) (b:=b) (i:=i) (ro:=ro) (ks:=ks) (gs:=gs) (ss:=ss) (wv := .slice s2 n c2))
 have H21:=Lib.hid (lW (v:=v) (b:=b) (i:=i) (ro:=ro) (ks:=ks) (gs:=gs) (ss:=ss) (wv := .slice s2 n c2))
 have H22:=Lib.hid (Ef (v:=v) (b:=b) (i:=i) (ro:=ro) (ks:=ks) (gs:=gs) (ss:=ss) (wv := .slice s2 n c2))
 have H234:=Lib.hid (gI (v:=v) (b:=b) (i:=i) (ks:=ks) (gs:=gs) (ss:=ss) (wv := .slice s2 n c2) h1)
 have H235:=Lib.hid (Cv (v:=v) (b:=b) (i:=i) (ks:=ks) (gs:=gs) (ss:=ss) (wv := .slice s2 n c2) h1)
 have H2132:=Lib.hid (xQ (v:=v) (b:=b) (i:=i) (ss:=ss) (wv := .slice s2 n c2) h1 h2 h3)
 have HCI:Hid ((Tryd.prog.info? 28).map (·.size)=some (dh i ks gs).size):=Lib.hid (by rw [jD h3 h2];exact kK)
 have HEN:=Lib.hid (fun w=>eqn_num ro h1 w)
 have HES:=Lib.hid (fun w=>eqn_sig ss h4 w)
 have HEC:=Lib.hid (fun w=>eq_cert i ks gs h2 h3 w)
 obtain ⟨S,hS⟩:∃ S,S=strOfNums ws:=⟨_,rfl⟩
 have HST:=Lib.hid hS.symm
 have HSQ:Hid ((S.toList == S.toList)=true):=Lib.hid (beq_self_eq_true _)
 generalize dh i ks gs=CC at H135 H235 HCI HEC
 generalize aZ v b ro (.slice s1 n c1) i ks gs ss=M1 at H10 H11 H12 H134 H135 H1132 ⊢
 generalize aZ v b ro (.slice s2 n c2) i ks gs ss=M2 at H20 H21 H22 H234 H235 H2132 ⊢
 have bN:=Lib.hid (bM.two w M1 M2 30 30)
 clear h1 h2 h3 h4 hs1 hs2 hS
 go_enter Tryd.func9, Tryd.ntmps9
 go_upto_region 1 with fail
 (try simp only [World.size_alloc,Act.put,sA,sZ,sS])
 generalize ((w.alloc (.cells M1 30)).alloc (.cells M2 30))=wb at bN ⊢
 refine oI (T:=fun _=>False) (w:=w) (sy:=[Yp (w.heap.size) 0,Yv (.int .i64 v),Yp (w.heap.size+1) 0,Yv (.int .i64 v),Yv (.bool true),Yv (.bool true),Yp (w.heap.size) 1,Yv (.int .i64 b),Yp (w.heap.size+1) 1,Yv (.int .i64 b),Yv (.bool true),Yv (.bool true),Yv (.bool true),Yp (w.heap.size) 2,Yr .u8 ro,Yp (w.heap.size+1) 2,Yr .u8 ro,Yv (.bool true),Yv (.bool true),Yv (.bool true),Yp (w.heap.size) 34,Yv (.slice s1 n c1),Yv (.string S),Yp (w.heap.size+1) 34,Yv (.slice s2 n c2),Yv (.string S),Yv (.bool true),Yv (.bool true),Yv (.bool true),Yp (w.heap.size) 35,Yv (.agg CC),Yp (w.heap.size+1) 35,Yv (.agg CC),Yv (.bool true),Yv (.bool true),Yv (.bool true),Yp (w.heap.size) 132,Yr .u8 ss,Yp (w.heap.size+1) 132,Yr .u8 ss,Yv (.bool true),Yv (.bool true),Yv (.bool true)]) (pt:=[]) (by kernel_rfl) (by kernel_rfl) bN.out.holds (fun hW=>?s1) (fun q1 x1 u1 _ hH=>?e1)
 case s1 =>
  refine jw hW ?_
  refine Iz hW ?_ 0 0 M1 30 H10.out (d:=_) rfl Tryd.underlying3
  refine jw hW ?_
  refine Iz hW ?_ 1 0 M2 30 H20.out (d:=_) rfl Tryd.underlying3
  refine SyX hW ?_ [.tmp 6, .tmp 8] [.int .i64 v, .int .i64 v] (fun ρ u _ e=>Ic rfl e u)
  refine jw hW ?_
  refine oG (jw hW ?_)
  refine oG (Iz hW ?_ 0 1 M1 30 H11.out (d:=_) rfl Tryd.underlying3)
  refine oG (jw hW ?_)
  refine oG (Iz hW ?_ 1 1 M2 30 H21.out (d:=_) rfl Tryd.underlying3)
  refine oG (SyX hW ?_ [.tmp 12, .tmp 14] [.int .i64 b, .int .i64 b] (fun ρ u _ e=>Ic rfl e u))
  refine jw hW ?_
  refine jw hW ?_
  refine oG (jw hW ?_)
  refine oG (vI hW ?_ 0 2 M1 30 JD iK.out H12.out)
  refine oG (jw hW ?_)
  refine oG (vI hW ?_ 1 2 M2 30 JD iK.out H22.out)
  refine oG (SyX hW ?_ [.tmp 19, .tmp 21] [.agg (arr .u8 ro), .agg (arr .u8 ro)] (fun ρ u _ e=>vg rfl eg_num e HEN.out u))
  refine jw hW ?_
  refine jw hW ?_
  refine oG (jw hW ?_)
  refine oG (Iz hW ?_ 0 34 M1 30 H134.out (d:=_) rfl Tryd.underlying24)
  refine oG (SyX hW ?_ [.tmp 26] [.slice s1 n c1] (fun ρ u k e=>CS rfl e (HA1.out.kept k (fun _ _ => .inr id)) HST.out))
  refine oG (jw hW ?_)
  refine oG (Iz hW ?_ 1 34 M2 30 H234.out (d:=_) rfl Tryd.underlying24)
  refine oG (SyX hW ?_ [.tmp 29] [.slice s2 n c2] (fun ρ u k e=>CS rfl e (HA2.out.kept k (fun _ _ => .inr id)) HST.out))
  refine oG (SyX hW ?_ [.tmp 27, .tmp 30] [.string S, .string S] (fun ρ u _ e=>Zc rfl e HSQ.out u))
  refine jw hW ?_
  refine jw hW ?_
  refine oG (jw hW ?_)
  refine oG (SyLa hW ?_ 0 35 M1 30 H135.out Tryd.underlying28 rfl HCI.out)
  refine oG (jw hW ?_)
  refine oG (SyLa hW ?_ 1 35 M2 30 H235.out Tryd.underlying28 rfl HCI.out)
  refine oG (SyX hW ?_ [.tmp 35, .tmp 37] [.agg CC, .agg CC] (fun ρ u _ e=>vg rfl eg_cert e HEC.out u))
  refine jw hW ?_
  refine jw hW ?_
  refine oG (jw hW ?_)
  refine oG (vI hW ?_ 0 132 M1 30 rowS HSL.out H1132.out)
  refine oG (jw hW ?_)
  refine oG (vI hW ?_ 1 132 M2 30 rowS HSL.out H2132.out)
  refine oG (SyX hW ?_ [.tmp 42, .tmp 44] [.agg (arr .u8 ss), .agg (arr .u8 ss)] (fun ρ u _ e=>vg rfl eg_sig e HES.out u))
  refine jw hW ?_
  refine jw hW ?_
  exact SyN
 case e1 =>
  have HB1:=Lib.hid (hH.blk [0,1] [(w.heap.size,M1, 30),(w.heap.size+1,M2, 30)] (by decide) (by kernel_rfl))
  simp only [lay,Sy.at,BF,Yr,Yv,Yp,Yq,Yn,Y0,Yw,Act.put,sA,sZ,sS,Nat.reduceAdd]
  clear hH bN
  (try simp only [Exit.then])
  go_wp2_with fail
  go_ret
  exact ⟨rfl,HB1.out.below⟩
end Go.Proofs.YthdgbgleklkaiaaDoor.Mf
