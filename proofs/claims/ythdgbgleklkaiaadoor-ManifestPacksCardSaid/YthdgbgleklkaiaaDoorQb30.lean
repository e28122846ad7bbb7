/- manifest.Body, Pack: The document's KeyOf: mac.padded, mac.Sum: The document's Mac, Extract: What wrapping is, in plain words. manifest.Name. Condition: as each theorem says. -/

import Derived.Test.YthdgbgleklkaiaaDoorQb03
import Derived.Test.YthdgbgleklkaiaaDoorQb04
import Derived.Test.YthdgbgleklkaiaaDoorQb05
import Derived.Test.YthdgbgleklkaiaaDoorQb11
import Derived.Test.YthdgbgleklkaiaaDoorQb13
import Derived.Test.YthdgbgleklkaiaaDoorQb15
import Derived.Test.YthdgbgleklkaiaaDoorQb16
import Derived.Test.YthdgbgleklkaiaaDoorQb17
import Derived.Test.YthdgbgleklkaiaaDoorQb27
import Derived.Test.YthdgbgleklkaiaaDoorQb28
open Go.Lib renaming hid→acD
open Nat renaming le_refl→acE,lt_of_lt_of_le→acJ
open List renaming replicate→acF,length_append→acG,length_map→acH,drop_replicate→acK
set_option linter.unusedSimpArgs false
set_option linter.unusedVariables false
set_option maxRecDepth 100000
set_option maxHeartbeats 16000000
namespace Go.Proofs.YthdgbgleklkaiaaDoor.Mf
open Go.RowKit Lm Fp Cu Sl Sc Ce
theorem Jp {ro ks gs ss:List Int} (v b i:Int) (sw:Option Addr) (nw cw:Nat) (w:World) (h1:ro.length=32) (h2:ks.length=32) (h3:gs.length=64) (h4:ss.length=64) (hm:gq v b nw i=false) :
  Calls Tryd.prog 11 #[.agg (aZ v b ro (.slice sw nw cw) i ks gs ss)] w fun e w'=>e = .returned (.tuple #[.slice none 0 0, .int .i64 1])∧Below w.heap.size w w':=by
 have nX:=fun (u:World)=>nT (ks:=ks) (gs:=gs) (ss:=ss) v b i sw nw cw u h1
 rw [hm] at nX
 have yD:=bK (v:=v) (b:=b) (i:=i) (wv := .slice sw nw cw) h1 h2 h3 h4
 obtain ⟨M,hM⟩:∃ M,M=aZ v b ro (.slice sw nw cw) i ks gs ss:=⟨_,rfl⟩
 rw [← hM] at nX yD ⊢
 have HG:Hid ((w.alloc (.cells M 30)).heap[w.heap.size]? = some (.cells M 30 (0,0))):=acD (aG w _)
 have HB:=acD ((Below.refl _ w).alloc (acE _) (.cells M 30))
 have Cy:Hid ((Tryd.prog.info? 30).map (·.size)=some M.size):=acD (by rw [yD];kernel_rfl)
 have HMY:=acD nX
 clear nX yD hM h1 h2 h3 h4 hm
 go_enter Tryd.func11, Tryd.ntmps11
 go_upto_region 1 with fail
 generalize w.alloc (.cells M 30)=wb at HG HB ⊢
 go_wp2_with (first|((with_reducible refine aS 5 ?_);refine wpList_load_row rfl 30 _ rfl (w.heap.size) rfl 30 _ (0,0) _ HG.out Tryd.underlying30 rfl Cy.out ?_)|((with_reducible show Calls _ 23 _ _ _);go_at_call 23; refine (HMY.out _).mono ?_;rintro e w1 ⟨rfl,hb1⟩;have HB1:=acD (HB.out.trans (hb1.mono HB.out.size));clear hb1))
 all_goals (try simp only [Exit.then])
 go_ret2
 exact ⟨rfl,HB1.out⟩
theorem Bc {ro ks gs ss ws:List Int} (v b i:Int) (sw:Option Addr) (nw cw:Nat) (w:World) (h1:ro.length=32) (h2:ks.length=32) (h3:gs.length=64) (h4:ss.length=64) (hws:Src w sw nw ws) :
  Calls Tryd.prog 11 #[.agg (aZ v b ro (.slice sw nw cw) i ks gs ss)] w fun e w'=>∃ vv,e = .returned (.tuple #[vv, .int .i64 (if gq v b nw i then 0 else 1)])∧aU w' w.heap.size vv (if gq v b nw i then bV v b ro ws i ks gs else [])∧Below w.heap.size w w':=by
 cases hm:gq v b nw i with
 | true =>
  have h80:nw=80:=by
   have h:=hm
   simp only [gq,Bool.and_eq_true,decide_eq_true_eq] at h
   exact h.1.2
  subst h80
  exact Jo v b i sw cw w h1 h2 h3 h4 hws hm
 | false =>
  refine (Jp v b i sw nw cw w h1 h2 h3 h4 hm).mono ?_
  rintro e w' ⟨rfl,hb⟩
  exact ⟨_,rfl,aU.nil _ _,hb⟩
theorem Ih {ro ks gs ss ws:List Int} (v b i:Int) (sw:Option Addr) (nw cw:Nat) (w:World) (h1:ro.length=32) (h2:ks.length=32) (h3:gs.length=64) (h4:ss.length=64) (hws:Src w sw nw ws) :
  Calls Tryd.prog 10 #[.agg (aZ v b ro (.slice sw nw cw) i ks gs ss)] w fun e w'=>∃ vv,e = .returned (.tuple #[vv, .int .i64 (if gq v b nw i then 0 else 1)])∧aU w' w.heap.size vv (if gq v b nw i then bV v b ro ws i ks gs ++ ss else [])∧Below w.heap.size w w':=by
 have hb:=(Below.refl _ w).alloc (acE _) (.cells (aZ v b ro (.slice sw nw cw) i ks gs ss) 30)
 have CS:=fun (u:World) (k:Below (w.alloc (.cells (aZ v b ro (.slice sw nw cw) i ks gs ss) 30)).heap.size (w.alloc (.cells (aZ v b ro (.slice sw nw cw) i ks gs ss) 30)) u)=>Bc (ks:=ks) (gs:=gs) (ss:=ss) v b i sw nw cw u h1 h2 h3 h4 ((hws.below hb).below k)
 have yD:=bK (v:=v) (b:=b) (i:=i) (wv := .slice sw nw cw) h1 h2 h3 h4
 have mg:=uw (v:=v) (b:=b) (i:=i) (ss:=ss) (wv := .slice sw nw cw) h1 h2 h3
 have hbl:gq v b nw i=true→(bV v b ro ws i ks gs).length≤300:=by
  intro h
  simp only [gq,Bool.and_eq_true,decide_eq_true_eq] at h
  have:=hws.len
  rw [bV,acG,acG,dO,acG,acG,dO,h1,h2,h3,this,h.1.2]
  simp
 obtain ⟨M,hM⟩:∃ M,M=aZ v b ro (.slice sw nw cw) i ks gs ss:=⟨_,rfl⟩
 rw [← hM] at hb CS yD mg ⊢
 generalize bV v b ro ws i ks gs=T at CS hbl ⊢
 have hg0:(w.alloc (.cells M 30)).heap[w.heap.size]? = some (.cells M 30 (0,0)):=aG w _
 have HG:=acD hg0
 have HB:=acD hb
 have kK:Hid (w.heap.size < (w.alloc (.cells M 30)).heap.size):=acD (by simp)
 have Cy:Hid ((Tryd.prog.info? 30).map (·.size)=some M.size):=acD (by rw [yD];kernel_rfl)
 have HMG:=acD mg
 have Da:=acD CS
 have HSL:=acD h4
 clear hg0 hb yD mg CS hM h1 h2 h3 h4 hws
 cases hm:gq v b nw i with
 | false =>
  rw [hm] at Da
  clear hbl
  go_enter Tryd.func10, Tryd.ntmps10
  go_upto_region 1 with fail
  generalize w.alloc (.cells M 30)=wb at HG HB kK Da ⊢
  go_wp2_with (first|((with_reducible refine aS 7 ?_);refine wpList_load_row rfl 30 _ rfl (w.heap.size) rfl 30 _ (0,0) _ HG.out Tryd.underlying30 rfl Cy.out ?_)|((with_reducible show Calls _ 11 _ _ _);go_at_call 11; refine (Da.out _ (Below.refl _ _)).mono ?_;rintro e w1 ⟨v1,rfl,ho,hb1⟩;have HB1:=acD (HB.out.trans (hb1.mono HB.out.size));clear ho hb1))
  all_goals (try simp only [Exit.then])
  go_ret2
  exact ⟨_,rfl,aU.nil _ _,HB1.out⟩
 | true =>
  rw [hm] at Da
  have qZ:=acD (hbl hm)
  clear hbl
  go_enter Tryd.func10, Tryd.ntmps10
  go_upto_region 1 with fail
  generalize w.alloc (.cells M 30)=wb at HG HB kK Da ⊢
  go_wp2_with (first|((with_reducible refine aS 7 ?_);refine wpList_load_row rfl 30 _ rfl (w.heap.size) rfl 30 _ (0,0) _ HG.out Tryd.underlying30 rfl Cy.out ?_)|((with_reducible show Calls _ 11 _ _ _);go_at_call 11; refine (Da.out _ (Below.refl _ _)).mono ?_;rintro e w1 ⟨v1,rfl,ho,hb1⟩;have HO:=acD ho;have HB1:=acD hb1;have xJ:Hid (Src w1 (some ⟨w.heap.size,132,none⟩) 64 ss):=acD (by have:=kP (Below.blk hb1 HG.out (aO HG.out)) 132 HMG.out;rwa [HSL.out] at this);clear ho hb1)|((with_reducible refine aS 17 ?_);refine aR rfl (.tmp 14) (.tmp 16) rfl wb.heap.size v1 T rfl HO.out (some ⟨w.heap.size,132,none⟩) 64 64 ss rfl xJ.out (by have:=qZ.out;omega) HB1.out.size ?_;intro v2 w2 how hgr _ _;have Br:=acD how;have HB2:=acD (aQ HO.out hgr HB1.out HB1.out.size);clear how hgr))
  all_goals (try simp only [Exit.then])
  go_ret2
  exact ⟨_,rfl,Br.out.mono (Nat.le_of_lt kK.out),HB.out.trans (HB2.out.mono (Nat.le_of_lt kK.out))⟩
end Go.Proofs.YthdgbgleklkaiaaDoor.Mf
namespace Go.Proofs.YthdgbgleklkaiaaDoor.Ms
open Go.RowKit Lm Fp Cu Sl Sc Ce
def iT (d:List Int) (v:Int):List Int:=Ha.hash (d ++ iV v)
theorem Ah (d:List Int) (v:Int):(iT d v).length=32:=Ha.dS _
theorem SI {a b c d:List Int} (v:Int) (w:World) (ha:a.length=32) (hb:b.length=32) (hc:c.length=32) (hd:d.length=32) (bd:bytes d) (hv : -9223372036854775808≤v∧v≤9223372036854775807) (hT:Ha.eP w) :
  Calls Tryd.prog 31 #[.agg (lF a b c d), .int .i64 v] w fun e w'=>e = .returned (.agg (arr .u8 (iT d v)))∧Below w.heap.size w w':=by
 obtain ⟨zn,hzn⟩:∃ zs:List Int,zs=acF 32 0:=⟨_,rfl⟩
 have HZ:Hid (∀ w,(zeroValue 23).run Tryd.prog w = .ok (.agg (arr .u8 zn)) w):=acD (by intro w;rw [hzn];exact zero_num w)
 have Um:Hid (zn.length=32):=acD (by rw [hzn];rfl)
 have hbx:bytes (d ++ iV v):=fun x hx=>by
  rcases List.mem_append.1 hx with h|h
  ·exact bd x h
  ·exact lq v x h
 have M1:=fun u=>gu v u hv
 have M2:=fun sa c u (hs:Src u sa 40 (d ++ iV v)) ht=>Ha.jL sa 40 c (d ++ iV v) u hs hbx (by decide) ht
 have hkl:=Ah d v
 have hke:Ha.hash (d ++ iV v)=iT d v:=rfl
 rw [hke] at M2
 have hbl:=fU v
 generalize iT d v=K at M2 hkl ⊢
 generalize iV v=b8 at M1 M2 hbl
 have hpt:=(vD ha hb hc hd).2.2.2
 generalize lF a b c d=SC at hpt ⊢
 have hs0:Src ((w.alloc (.cells SC 47)).alloc (.cells (arr .u8 zn) 23)) (some ⟨w.heap.size,96,none⟩) d.length d:=Mf.kP (aY (aG w _) _) 96 hpt
 rw [hd] at hs0
 have HS:=acD hs0
 have yS:Hid (((w.alloc (.cells SC 47)).alloc (.cells (arr .u8 zn) 23)).heap[w.heap.size+1]? = some (.cells (arr .u8 zn) 23 (0,0))):=acD (by have:=aG (w.alloc (.cells SC 47)) (.cells (arr .u8 zn) 23);rwa [World.size_alloc] at this)
 have HB:=acD (((Below.refl _ w).alloc (acE _) (.cells SC 47)).alloc (by simp) (.cells (arr .u8 zn) 23))
 have Uh:=acD (fun (u:World) (k:Below w.heap.size w u)=>Ha.eP.kept hT (Kept.of_below (T:=fun _=>False) k) (fun h=>h))
 have Cz:=acD M1
 have GN:=acD M2
 have kU:=acD hkl
 have q8:=acD hbl
 have yV:=acD hd
 clear M1 M2 hkl hke hbl hpt hs0 ha hb hc hd bd hv hT hbx hzn
 go_enter Tryd.func31, Tryd.ntmps31
 go_upto_region 1 with ((with_reducible refine aS 4 ?_);refine aj rfl 23 rfl _ (HZ.out _) ?_)
 (try simp only [World.size_alloc,Act.put,sA,sZ,sS])
 generalize ((w.alloc (.cells SC 47)).alloc (.cells (arr .u8 zn) 23))=wb at HS yS HB ⊢
 go_wp2_with (first|((with_reducible refine aS 7 ?_);refine aR rfl (.const (.slice none 0 0)) (.tmp 6) rfl wb.heap.size (.slice none 0 0) [] rfl (aU.nil _ _) (some ⟨w.heap.size,96,none⟩) 32 32 d rfl HS.out (by decide) (acE _) ?_;intro v1 w1 how hgr _ _;have HB1:=acD (aQ (aU.nil _ _) hgr (Below.refl _ wb) (acE _));have NA:Hid (aU w1 wb.heap.size v1 d):=acD how;clear how hgr)|((with_reducible show Calls _ 30 _ _ _);go_at_call 30; refine (Cz.out _).mono ?_;rintro e w2 ⟨v2,rfl,ho2,hb2⟩;have Br:=acD (NA.out.below hb2);have HB2:=acD (HB1.out.trans (hb2.mono HB1.out.size));obtain ⟨s2,c2,hv2, -, -, hs2, -⟩:=ho2.form;rw [q8.out] at hv2 hs2;subst hv2;have HS2:=acD hs2;clear hs2 ho2 hb2)|((with_reducible refine aS 10 ?_);refine aR rfl (.tmp 7) (.tmp 9) rfl wb.heap.size v1 d rfl Br.out s2 8 c2 b8 rfl HS2.out (by rw [yV.out];decide) HB2.out.size ?_;intro v3 w3 how hgr _ _;have HB3:=acD (aQ Br.out hgr HB2.out HB2.out.size);obtain ⟨s3,c3,hv3, -, -, hs3, -⟩:=how.form;rw [acG,yV.out,q8.out] at hv3 hs3;subst hv3;have yR:=acD hs3;clear hs3 how hgr)|((with_reducible show Calls _ 14 _ _ _);go_at_call 14; refine (GN.out _ _ _ yR.out (Uh.out _ (HB.out.trans (HB3.out.mono HB.out.size)))).mono ?_;rintro e w4 ⟨rfl,hb4⟩;have HB4:=acD (HB.out.trans ((HB3.out.trans (hb4.mono HB3.out.size)).mono HB.out.size));have HR4:=acD (Below.blk (HB3.out.trans (hb4.mono HB3.out.size)) yS.out (aO yS.out));clear hb4)|((with_reducible refine aT 4 ?_);refine ah rfl 23 _ _ rfl (w.heap.size+1) _ _ 23 HR4.out rfl rfl (ay _ _ kU.out Um.out) (Sl.bE kU.out) (av _ _) ?_;intro w5 hb hk hz;have fM:=acD hb;have JC:=acD hk;clear hb hk hz))
 (try simp only [Exit.then])
 refine bodyPost_ret (results_cell_row rfl _ _ (w.heap.size+1) 23 _ (0,0) _ rfl fM.out Tryd.underlying23 rfl (Sl.bE kU.out)) rfl ?_
 exact ⟨rfl,HB4.out.trans ⟨JC.out.os,JC.out.tape,JC.out.output,JC.out.size,fun i hi=>JC.out.block i (acJ hi HB4.out.size) (fun e=>by have e:i=w.heap.size+1:=e;omega)⟩⟩
end Go.Proofs.YthdgbgleklkaiaaDoor.Ms
namespace Go.Proofs.YthdgbgleklkaiaaDoor.Wr
open Go.RowKit Lm Cu Sl
theorem wU {w:World} {ops:Array Oper} {rest:List Oper} {o:Oper} {a:Act} {Q:Exit→Act→World→Prop} (hgd:o.guard=none) (d s:Operand)
  (ho:o.op = .call { callee := .builtin .copy,args := #[d,s],argTypes := #[24, 24] }) (g m c n cs:Nat) (ad:Addr) (cur xs:List Int) (t:TypeId)
  (hd:a.eval d = .slice (some ⟨g,0,none⟩) m c) (hs:a.eval s = .slice (some ad) n cs) (hg:w.heap[g]? = some (.cells (arr .u8 cur) t (0,0))) (hsrc:Src w (some ad) n xs) (hnm:n≤m) (hfit:m≤cur.length)
  (h:∀ w',w'.heap[g]? = some (.cells (arr .u8 (xs ++ cur.drop n)) t (0,0))→Kept (fun x=>x=g) w w'→wpList Tryd.prog ops Q rest (a.put o.dst (.int .i64 (n:Int))) w'):wpList Tryd.prog ops Q (o :: rest) a w:=by
 refine wpList_plain hgd fun K hK=>?_
 have hl:=hsrc.len
 have hrun:=run_copy_row (P := Tryd.prog) w 24 24 o.type 5 g 0 m c ad n cs (arr .u8 cur) t (xs.map (Value.int .u8)) Tryd.underlying24 (by kernel_rfl) hg (by rw [acH,hl];exact (Nat.min_eq_left hnm).symm) (jk hsrc _ rfl) (by rw [acH,hl,aD];omega) (mQ _ _)
 unfold Oper.wp execOp
 simp only [ho,resolve,invoke,builtin,Sem.run_bind,Sem.run_pure,Result.andThen_ok,List.map_toArray,List.map_cons,List.map_nil,hd,hs,hrun]
 have e:((arr .u8 cur).toList.take 0 ++ xs.map (Value.int .u8) ++ (arr .u8 cur).toList.drop (0+(xs.map (Value.int .u8)).length)).toArray=arr .u8 (xs ++ cur.drop n):=by
  show ((cur.map (Value.int .u8)).take 0 ++ xs.map (Value.int .u8) ++ (cur.map (Value.int .u8)).drop (0+(xs.map (Value.int .u8)).length)).toArray=((xs ++ cur.drop n).map (Value.int .u8)).toArray
  rw [acH,hl,List.map_append,List.map_drop,List.take_zero,List.nil_append,Nat.zero_add]
 rw [e,acH,hl]
 exact hK _ _ (h _ (setRow_heap w g _ _ t _ hg) ⟨rfl,rfl,rfl,by simp [World.setRow],fun k _ hne=>setRow_other w g k _ hne⟩)
theorem mk64 (w:World):(Instr.makeSlice 24 (.int .i64 64) (.int .i64 64)).run Tryd.prog w = .ok (.slice (some ⟨w.heap.size,0,none⟩) 64 64) (w.alloc (.cells (arr .u8 (acF 64 0)) 5)):=by kernel_rfl
end Go.Proofs.YthdgbgleklkaiaaDoor.Wr
namespace Go.Proofs.YthdgbgleklkaiaaDoor.Wr
open Go.RowKit Lm Cu Sl
theorem dJ {a b:World} (h:Ha.eP a) (k:Below a.heap.size a b):Ha.eP b:=fun t ht=>(Kept.of_below k (T:=fun _=>False)).l9 (h t ht) id
theorem lT {w:World} {ops:Array Oper} {rest:List Oper} {o:Oper} {a:Act} {Q:Exit→Act→World→Prop} (hgd:o.guard=none) (s x:Operand)
  (ho:o.op = .call { callee := .builtin .append,args := #[s,x],argTypes := #[24, 24] }) (g n m c:Nat) (a2:Addr) (xs ys:List Int) (hs:a.eval s = .slice (some ⟨g,0,none⟩) n n) (hx:a.eval x = .slice (some a2) m c)
  (h1:Src w (some ⟨g,0,none⟩) n xs) (h2:Src w (some a2) m ys) (hm:0 < m) (hle:n+m≤1099511627776)
  (h:∀ g' cap w',Src w' (some ⟨g',0,none⟩) (n+m) (xs ++ ys)→n+m≤cap→Below w.heap.size w w'→wpList Tryd.prog ops Q rest (a.put o.dst (.slice (some ⟨g',0,none⟩) (n+m) cap)) w'):wpList Tryd.prog ops Q (o :: rest) a w:=by
 refine wpList_plain hgd fun K hK=>?_
 have hq:=xS (ops:=ops) (a:=a) (K:=K) (Q:=Q) (E:=True) hgd s x ho g n m c a2 xs ys hs hx h1 h2 hm hle (fun g' cap w' h3 h4 h5=>hK _ _ (h g' cap w' h3 h4 h5))
 rw [if_pos (by simp [Region.wanted,hgd])] at hq
 exact hq
theorem Ib (key msg:List Int) (ad:Addr) (nk ck:Nat) (a2:Addr) (nb cb:Nat) (w:World) (hs:Src w (some ad) nk key) (hb:bytes key) (hnk:nk≤64) (hB:Src w (some a2) nb msg) (bB:bytes msg) (h0:0 < nb) (hN:nb≤1073741824) (hk:Ha.eP w) :
  Calls Tryd.prog 93 #[.slice (some ad) nk ck, .slice (some a2) nb cb] w fun e w'=>e = .returned (.agg (arr .u8 (KS key msg)))∧Below w.heap.size w w':=by
 have hl:=hs.len
 have hl2:=hB.len
 have hgt:¬ (64:Int) < (nk:Int):=by omega
 obtain ⟨z64,hz⟩:∃ z:List Int,z=acF 64 0:=⟨_,rfl⟩
 have hmk:∀ u:World,(Instr.makeSlice 24 (.int .i64 64) (.int .i64 64)).run Tryd.prog u = .ok (.slice (some ⟨u.heap.size,0,none⟩) 64 64) (u.alloc (.cells (arr .u8 z64) 5)):=by intro u;rw [hz];exact mk64 u
 have hzl:z64.length=64:=by rw [hz];rfl
 have h54:key ++ z64.drop nk=kQ key 54 0:=by rw [hz,← Dw key 54 (by omega),acK,hl]
 have h92:key ++ z64.drop nk=kQ key 92 0:=by rw [hz,← Dw key 92 (by omega),acK,hl]
 have hget:=fun b i h=>Wj key b i h
 have hset:=fun b i h=>Wi key b i h
 have b1:=Dv key 54
 have b2:=Dv key 92
 have l1:(pad key 54).length=64:=jV _ _ _
 have l2:(pad key 92).length=64:=jV _ _ _
 have hsh1:=fun (s:Addr) (c:Nat) (u:World) (h:Src u (some s) (64+nb) (pad key 54 ++ msg)) (hk:Ha.eP u)=>Ha.jL (some s) (64+nb) c _ u h (gX b1 bB) (by omega) hk
 obtain ⟨h1,yN⟩:∃ x,x=Ha.hash (pad key 54 ++ msg):=⟨_,rfl⟩
 have hl1:h1.length=32:=by rw [yN];exact dS _
 have hb1:bytes h1:=by rw [yN];exact fu _
 have IL:=fun (s:Addr) (c:Nat) (u:World) (h:Src u (some s) (64+32) (pad key 92 ++ h1)) (hk:Ha.eP u)=>Ha.jL (some s) (64+32) c _ u h (gX b2 hb1) (by decide) hk
 have hm:KS key msg=Ha.hash (pad key 92 ++ h1):=by rw [yN];rfl
 rw [hm]
 rw [← yN] at hsh1
 obtain ⟨h2,hh2⟩:∃ x,x=Ha.hash (pad key 92 ++ h1):=⟨_,rfl⟩
 have hl3:h2.length=32:=by rw [hh2];exact dS _
 rw [← hh2] at IL ⊢
 have HSH1:=acD hsh1
 have HSH2:=acD IL
 have nC:=acD l1
 have HL2:=acD l2
 have xO:=acD hl1
 have HH2:=acD hl3
 have HS:=acD hs
 have HB:=acD hB
 have H0:=acD h0
 have HNB:=acD hN
 have HNK:=acD hnk
 have uT:=acD hzl
 have H54:=acD h54
 have H92:=acD h92
 have HGET:=acD hget
 have HSET:=acD hset
 have wG:=acD hk
 obtain ⟨zn,hzn⟩:∃ zs:List Int,zs=acF 32 0:=⟨_,rfl⟩
 have dA:Hid (∀ w,(zeroValue 23).run Tryd.prog w = .ok (.agg (arr .u8 zn)) w):=acD (by intro w;rw [hzn];exact zero_num w)
 have cK:Hid (zn.length=32):=acD (by rw [hzn];rfl)
 have HI0:=acD (bM.three w (arr .u8 zn) (arr .u8 z64) (arr .u8 z64) 23 5 5)
 clear hz hzl h54 h92 hget hset b1 b2 l1 l2 hsh1 IL yN hl1 hb1 hm hh2 hl3 hs hB bB hb hnk h0 hN hk hl hl2 hzn
 go_enter Tryd.func93, Tryd.ntmps93
 go_upto_region 6 with (first|((with_reducible refine aS 4 ?_);refine aj rfl 23 rfl _ (dA.out _) ?_))
 (try simp only [World.size_alloc,Act.put,sA,sZ,sS])
 generalize (((w.alloc (.cells (arr .u8 zn) 23)).alloc (.cells (arr .u8 z64) 5)).alloc (.cells (arr .u8 z64) 5))=wb at HI0 ⊢
 go_upto_region 9 with (first|((with_reducible refine aS 20 ?_);refine wU rfl (.tmp 18) (.tmp 19) rfl (w.heap.size+1) 64 64 nk ck ad z64 key 5 rfl rfl (HI0.out.get 1 rfl) (HS.out.below HI0.out.below) HNK.out (by rw [uT.out];exact acE _) ?_;rw [H54.out];intro w1 hb1 hk1;have HI1:=acD (HI0.out.put 1 rfl hk1 hb1);clear hb1 hk1)|((with_reducible refine aS 23 ?_);refine wU rfl (.tmp 21) (.tmp 22) rfl (w.heap.size+1+1) 64 64 nk ck ad z64 key 5 rfl rfl (HI1.out.get 2 rfl) (HS.out.below HI1.out.below) HNK.out (by rw [uT.out];exact acE _) ?_;rw [H92.out];intro w2 hb1 hk1;have HI2:=acD (HI1.out.put 2 rfl hk1 hb1);clear hb1 hk1))
 (try simp only [World.size_alloc,Act.put,sA,sZ,sS])
 go_loopw [8] (fun v wr=>∃ i:Nat,i≤64∧v = .int .i64 i∧bM w wr [(w.heap.size,arr .u8 zn, 23),(w.heap.size+1,arr .u8 (kQ key 54 i), 5),(w.heap.size+1+1,arr .u8 (kQ key 92 i), 5)]) (fun v _=>64 - (intOf v).toNat)
 case atStart=>exact ⟨0,Nat.zero_le _,rfl,HI2.out⟩
 clear HI2 HI0
 case round =>
 obtain ⟨i,hi,rfl,hB⟩:=hrel
 by_cases hlt:i < 64
 ·have q0:=aP (hB.get 1 rfl) i (by rw [jV];exact hlt)
  have q1:=aC (hB.get 1 rfl) i
  have p0:=aP (hB.get 2 rfl) i (by rw [jV];exact hlt)
  rw [HGET.out _ i hlt] at q0 p0
  have s1:=HSET.out 54 i hlt
  have s2:=HSET.out 92 i hlt
  generalize key.getD i 0=y at q0 p0 s1 s2
  have hb1:=hB.cell 1 rfl i (.int .u8 (bits .xor .u8 y 54))
  have e1:(arr .u8 (kQ key 54 i)).setIfInBounds i (.int .u8 (bits .xor .u8 y 54))=arr .u8 (kQ key 54 (i+1)):=by rw [bf,s1]
  have hb2:=hb1.cast (l':=[(w.heap.size,arr .u8 zn, 23),(w.heap.size+1,arr .u8 (kQ key 54 (i+1)), 5),(w.heap.size+1+1,arr .u8 (kQ key 92 i), 5)]) (by rw [← e1];rfl)
  have p1:=aP (hb2.get 2 rfl) i (by rw [jV];exact hlt)
  have p2:=aC (hb2.get 2 rfl) i
  rw [HGET.out _ i hlt] at p1
  have hy:key.getD i 0=y:=by
   have:=aP (hB.get 2 rfl) i (by rw [jV];exact hlt)
   rw [HGET.out _ i hlt,p0] at this
   injection this with this
   injection this with _ this
   exact this.symm
  rw [hy] at p1
  have hb3:=hb2.cell 2 rfl i (.int .u8 (bits .xor .u8 y 92))
  have e2:(arr .u8 (kQ key 92 i)).setIfInBounds i (.int .u8 (bits .xor .u8 y 92))=arr .u8 (kQ key 92 (i+1)):=by rw [bf,s2]
  have HB3:=acD (hb3.cast (l':=[(w.heap.size,arr .u8 zn, 23),(w.heap.size+1,arr .u8 (kQ key 54 (i+1)), 5),(w.heap.size+1+1,arr .u8 (kQ key 92 (i+1)), 5)]) (by rw [← e2];rfl))
  clear hb1 hb2 hb3 e1 e2 s1 s2 hB p0 hy
  go_wp2_with fail
  go_roundw
  case rel=>exact ⟨i+1,by omega,by go_num,HB3.out⟩
  case measure=>simp [intOf];omega
 ·obtain rfl:i=64:=by omega
  have HI3:=acD hB
  clear hB
  go_wp2_with (first|((with_reducible refine aS 46 ?_);refine lT rfl (.tmp 44) (.tmp 45) rfl (w.heap.size+1) 64 nb cb a2 (pad key 54) msg rfl rfl (bO (HI3.out.get 1 rfl) 64 nC.out) (HB.out.below HI3.out.below) H0.out (by have:=HNB.out;omega) ?_;intro g4 c4 w4 hs4 _ hb4;have Cv:=acD hs4;have HI4:=acD (HI3.out.kept hb4);clear hs4 hb4)|((with_reducible show Calls _ 14 _ _ _);go_at_call 14; refine (HSH1.out _ _ _ Cv.out (dJ wG.out HI4.out.below)).mono ?_;rintro e w5 ⟨rfl,hb5⟩;have HI5:=acD (HI4.out.kept hb5);clear hb5 HSH1)|((with_reducible refine aS 9 ?_);refine lA rfl rfl (dA.out _) HI5 ?_;intro g9 w6 UE)|((with_reducible refine aT 9 ?_);refine lS rfl rfl UE 3 rfl rfl rfl (ay _ _ xO.out cK.out) (bE xO.out) (av _ _) ?_;intro w7 HI7)|((with_reducible refine aS 50 ?_);refine lT rfl (.tmp 48) (.tmp 49) rfl (w.heap.size+1+1) 64 32 32 ⟨g9,0,none⟩ (pad key 92) h1 rfl rfl (bO (HI7.out.get 2 rfl) 64 HL2.out) (bO (HI7.out.get 3 rfl) 32 xO.out) (by decide) (by decide) ?_;intro g8 c8 w8 hs8 _ jP;have Uz:=acD hs8;have HI8:=acD (HI7.out.kept jP);clear hs8 jP)|((with_reducible show Calls _ 14 _ _ _);go_at_call 14; refine lC (HSH2.out _ _ _ Uz.out (dJ wG.out HI8.out.below)) HI8 ?_;intro w9 HI9)|((with_reducible refine aT 4 ?_);refine lS rfl rfl HI9 0 rfl rfl rfl (ay _ _ HH2.out cK.out) (bE HH2.out) (av _ _) ?_;intro Us HI10))
  (try simp only [Exit.then])
  refine bodyPost_ret (results_cell_row rfl _ _ (w.heap.size) 23 _ (0,0) _ rfl (HI10.out.get 0 rfl) Tryd.underlying23 rfl (bE HH2.out)) rfl ?_
  exact ⟨rfl,HI10.out.below⟩
theorem EN (RH key:List Int) (ad:Addr) (nk ck:Nat) (a2:Addr) (nb cb:Nat) (w:World) (hs:Src w (some ad) nk RH) (hb:bytes RH) (hnk:nk≤64) (hB:Src w (some a2) nb key) (bB:bytes key) (h0:0 < nb) (hN:nb≤1073741824) (hk:Ha.eP w) :
  Calls Tryd.prog 75 #[.slice (some ad) nk ck, .slice (some a2) nb cb] w fun e w'=>e = .returned (.agg (arr .u8 (KS RH key)))∧Below w.heap.size w w':=by
 have hms:=fun (u:World) (h1:Src u (some ad) nk RH) (h2:Src u (some a2) nb key) (h3:Ha.eP u)=>Ib RH key ad nk ck a2 nb cb u h1 hb hnk h2 bB h0 hN h3
 obtain ⟨h1,yN⟩:∃ x,x=KS RH key:=⟨_,rfl⟩
 rw [← yN] at hms ⊢
 have xO:Hid (h1.length=32):=acD (by rw [yN];exact Fa _ _)
 have F3:=acD hms
 have HS:=acD hs
 have QI:=acD hB
 have wG:=acD hk
 obtain ⟨zn,hzn⟩:∃ zs:List Int,zs=acF 32 0:=⟨_,rfl⟩
 have dA:Hid (∀ w,(zeroValue 23).run Tryd.prog w = .ok (.agg (arr .u8 zn)) w):=acD (by intro w;rw [hzn];exact zero_num w)
 have cK:Hid (zn.length=32):=acD (by rw [hzn];rfl)
 have HI0:=acD (bM.one w (arr .u8 zn) 23)
 clear yN hms hs hB hzn hb bB hnk hN h0 hk
 go_enter Tryd.func75, Tryd.ntmps75
 go_upto_region 1 with (first|((with_reducible refine aS 4 ?_);refine aj rfl 23 rfl _ (dA.out _) ?_))
 (try simp only [World.size_alloc,Act.put,sA,sZ,sS])
 generalize (w.alloc (.cells (arr .u8 zn) 23))=wb at HI0 ⊢
 go_wp2_with (first|((with_reducible show Calls _ 93 _ _ _);go_at_call 93; refine lC (F3.out _ (HS.out.below HI0.out.below) (QI.out.below HI0.out.below) (dJ wG.out HI0.out.below)) HI0 ?_;intro w1 HI1)|((with_reducible refine aT 4 ?_);refine lS rfl rfl HI1 0 rfl rfl rfl (ay _ _ xO.out cK.out) (bE xO.out) (av _ _) ?_;intro w2 HI2))
 (try simp only [Exit.then])
 refine bodyPost_ret (results_cell_row rfl _ _ (w.heap.size) 23 _ (0,0) _ rfl (HI2.out.get 0 rfl) Tryd.underlying23 rfl (bE xO.out)) rfl ?_
 exact ⟨rfl,HI2.out.below⟩
end Go.Proofs.YthdgbgleklkaiaaDoor.Wr
namespace Go.Proofs.YthdgbgleklkaiaaDoor.Wr
open Go.RowKit Lm Cu Fp
def n0:List Int:=acF 12 0
def sealed (T D:Nat) (x:List Int):List Int:=Ae.lV (G8 (n32 (bW D 9)) (n32 (bW D T))) n0 x (n32 T)
def CF (T D:Nat) (x:List Int):List Int:=if bW D T=0 then [] else n32 (bW D 9) ++ sealed T D x
def Rn (T D:Nat):Int:=if bW D T=0 then 21 else 0
theorem n0_len:n0.length=12:=rfl
theorem Wz:bytes n0:=by intro x hx;have:=List.eq_of_mem_replicate hx;subst this;decide
theorem zJ (T D:Nat) (x:List Int) (h:x.length=32):(sealed T D x).length=48:=by rw [sealed,Ae.Hy,h]
end Go.Proofs.YthdgbgleklkaiaaDoor.Wr
namespace Go.Proofs.YthdgbgleklkaiaaDoor.Mf
open Go.RowKit Lm Fp Cu Sl Sc Ce
theorem Wy (sa:Option Addr) (n c:Nat) (xs:List Int) (w:World) (hs:Src w sa n xs) (hc:n≤c) (bx:bytes xs) (hn:n≤1000000000) :
  Calls Tryd.prog 13 #[.slice sa n c] w fun e w'=>e = .returned (.agg (arr .u8 (Ha.hash xs)))∧Below w.heap.size w w':=by
 obtain ⟨zn,hzn⟩:∃ zs:List Int,zs=acF 32 0:=⟨_,rfl⟩
 have HZ:Hid (∀ w,(zeroValue 23).run Tryd.prog w = .ok (.agg (arr .u8 zn)) w):=acD (by intro w;rw [hzn];exact zero_num w)
 have Um:Hid (zn.length=32):=acD (by rw [hzn];rfl)
 have hl:=hs.len
 have M2:=fun (u:World) (g cc:Nat) (h:oq u (some ⟨g,0,none⟩) 1 [xs])=>Ha.tZ (some ⟨g,0,none⟩) 1 cc [xs] u h (by intro l hl;rw [List.mem_singleton] at hl;subst hl;exact bx) (by simp;omega) (by decide)
 have hkl:(Ha.hash xs).length=32:=Ha.dS _
 rw [show [xs].flatten=xs by simp] at M2
 generalize Ha.hash xs=K at M2 hkl ⊢
 have hb1:=(Below.refl _ w).alloc (acE _) (.cells (arr .u8 zn) 23)
 have yS:Hid ((w.alloc (.cells (arr .u8 zn) 23)).heap[w.heap.size]? = some (.cells (arr .u8 zn) 23 (0,0))):=acD (aG w _)
 have HB:=acD hb1
 have HS:=acD (Tx (hs.below hb1) hc)
 have GN:=acD M2
 have kU:=acD hkl
 clear M2 hkl hb1 hs hzn bx hn hl hc
 go_enter Tryd.func13, Tryd.ntmps13
 go_upto_region 1 with ((with_reducible refine aS 2 ?_);refine aj rfl 23 rfl _ (HZ.out _) ?_)
 (try simp only [World.size_alloc,Act.put,sA,sZ,sS])
 generalize w.alloc (.cells (arr .u8 zn) 23)=wb at yS HB HS ⊢
 go_wp2_with (first|((with_reducible show Calls _ 27 _ _ _);go_at_call 27; refine (GN.out _ _ _ HS.out).mono ?_;rintro e w4 ⟨rfl,hb4⟩;have hb5:=((Below.refl _ wb).alloc (acE _) (.cells #[.slice sa n c] 24)).trans (hb4.mono (by simp));have HB4:=acD (HB.out.trans (hb5.mono HB.out.size));have HR4:=acD (Below.blk hb5 yS.out (aO yS.out));clear hb4 hb5)|((with_reducible refine aT 2 ?_);refine ah rfl 23 _ _ rfl (w.heap.size) _ _ 23 HR4.out rfl rfl (ay _ _ kU.out Um.out) (Sl.bE kU.out) (av _ _) ?_;intro w5 hb hk hz;have fM:=acD hb;have JC:=acD hk;clear hb hk hz))
 (try simp only [Exit.then])
 refine bodyPost_ret (results_cell_row rfl _ _ (w.heap.size) 23 _ (0,0) _ rfl fM.out Tryd.underlying23 rfl (Sl.bE kU.out)) rfl ?_
 exact ⟨rfl,HB4.out.trans ⟨JC.out.os,JC.out.tape,JC.out.output,JC.out.size,fun i hi=>JC.out.block i (acJ hi HB4.out.size) (fun e=>by have e:i=w.heap.size:=e;omega)⟩⟩
end Go.Proofs.YthdgbgleklkaiaaDoor.Mf
