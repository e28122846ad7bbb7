/- A copy of bytes within a region that draws its order; mac.padded, mac.Sum: The document's Mac, Extract: What wrapping is, in plain words. The document's filled and length. The docu. Condition: as each theorem says. -/
import Derived.BigRegion
import Derived.Deep.LoopGhost
import Derived.Laws.CopyOwn
import Derived.StillTailTactics
import Derived.Test.YthdgbgleklkaiaaDoorQa03
import Derived.Test.YthdgbgleklkaiaaDoorQa05
import Derived.Test.YthdgbgleklkaiaaDoorQa09
import Derived.Test.YthdgbgleklkaiaaDoorQa18
import Derived.Test.YthdgbgleklkaiaaDoorQa19
import Derived.Test.YthdgbgleklkaiaaDoorQa21
import Derived.Test.YthdgbgleklkaiaaDoorQa30
set_option linter.unusedSimpArgs false
set_option linter.unusedVariables false
set_option maxRecDepth 100000
set_option maxHeartbeats 16000000
namespace Go.Proofs.YthdgbgleklkaiaaDoor.Rd
open Go.RowKit Lm Fp Cu Sc
theorem uS {w:World} {ops:Array Oper} {o:Oper} {a:Act} {K:Act→World→Prop} {Q:Exit→Act→World→Prop} {E:Prop} (hgd:o.guard=none) (d s:Operand)
  (ho:o.op = .call { callee := .builtin .copy,args := #[d,s],argTypes := #[24, 24] }) (g off m c cs:Nat) (ad:Addr) (cur xs:List Int) (t:TypeId)
  (hd:a.eval d = .slice (some ⟨g,off,none⟩) m c) (hs:a.eval s = .slice (some ad) m cs) (hg:w.heap[g]? = some (.cells (arr .u8 cur) t (0,0))) (hsrc:Src w (some ad) m xs) (hfit:off+m≤cur.length)
  (h:∀ w',w'.heap[g]? = some (.cells (arr .u8 (cur.take off ++ xs ++ cur.drop (off+m))) t (0,0))→Kept (fun x=>x=g) w w'→K (a.put o.dst (.int .i64 (m:Int))) w') :
  if Region.wanted o (yielded ops a.tmps)=true then Oper.wp Tryd.prog o a w K Q else E:=by
 have hw:Region.wanted o (yielded ops a.tmps)=true:=by simp [Region.wanted,hgd]
 rw [if_pos hw]
 have hl:=hsrc.len
 have hrun:=run_copy_row (P := Tryd.prog) w 24 24 o.type 5 g off m c ad m cs (arr .u8 cur) t (xs.map (Value.int .u8)) Tryd.underlying24 (by kernel_rfl) hg (by simp [hl]) (jf hsrc _ rfl) (by rw [List.length_map,hl,aF];exact hfit) (mF _ _)
 unfold Oper.wp execOp
 simp only [ho,resolve,invoke,builtin,Sem.run_bind,Sem.run_pure,Result.andThen_ok,List.map_toArray,List.map_cons,List.map_nil,hd,hs,hrun]
 have e:((arr .u8 cur).toList.take off ++ xs.map (Value.int .u8) ++ (arr .u8 cur).toList.drop (off+(xs.map (Value.int .u8)).length)).toArray=arr .u8 (cur.take off ++ xs ++ cur.drop (off+m)):=by
  show ((cur.map (Value.int .u8)).take off ++ xs.map (Value.int .u8) ++ (cur.map (Value.int .u8)).drop (off+(xs.map (Value.int .u8)).length)).toArray=((cur.take off ++ xs ++ cur.drop (off+m)).map (Value.int .u8)).toArray
  rw [List.length_map,hl,List.map_append,List.map_append,List.map_take,List.map_drop]
 rw [e,List.length_map,hl]
 exact h _ (setRow_heap w g _ _ t _ hg) ⟨rfl,rfl,rfl,by simp [World.setRow],fun k _ hne=>setRow_other w g k _ hne⟩
theorem Qq {w:World} {g:Nat} {t:TypeId} {fr:Nat×Nat} {s1 s2 s3:Option Addr} {n1 n2 n3 c1 c2 c3:Nat} {x1 x2 x3:List Int} (h:w.heap[g]? = some (.cells #[.slice s1 n1 c1, .slice s2 n2 c2, .slice s3 n3 c3] t fr))
  (h1:Src w s1 n1 x1) (h2:Src w s2 n2 x2) (h3:Src w s3 n3 x3) (l1:n1≤c1) (l2:n2≤c2) (l3:n3≤c3):qD w (some ⟨g,0,none⟩) 3 [x1,x2,x3]:=by
 have e1:=h1.len
 have e2:=h2.len
 have e3:=h3.len
 subst e1 e2 e3
 refine ⟨rfl,fun i hi=>?_⟩
 match i,hi with
 | 0,_=>exact ⟨_,s1,c1,rfl,by rw [show (⟨g,0,none⟩:Addr).add 0=⟨g,0,none⟩ from rfl,aG h];rfl,l1,h1⟩
 | 1,_=>exact ⟨_,s2,c2,rfl,by rw [show (⟨g,0,none⟩:Addr).add 1=⟨g,1,none⟩ from rfl,aG h];rfl,l2,h2⟩
 | 2,_=>exact ⟨_,s3,c3,rfl,by rw [show (⟨g,0,none⟩:Addr).add 2=⟨g,2,none⟩ from rfl,aG h];rfl,l3,h3⟩
theorem copied {cur xs:List Int} {n:Nat} (h1:cur.length=n) (h2:xs.length=n):cur.take 0 ++ xs ++ cur.drop (0+n)=xs:=by
 rw [List.take_zero,List.nil_append,Nat.zero_add,List.drop_of_length_le (by omega),List.append_nil]
end Go.Proofs.YthdgbgleklkaiaaDoor.Rd
namespace Go.Proofs.YthdgbgleklkaiaaDoor.Wr
open Go.RowKit Lm Cu Sl
theorem wG {w:World} {ops:Array Oper} {rest:List Oper} {o:Oper} {a:Act} {Q:Exit→Act→World→Prop} (hgd:o.guard=none) (d s:Operand)
  (ho:o.op = .call { callee := .builtin .copy,args := #[d,s],argTypes := #[24, 24] }) (g m c n cs:Nat) (ad:Addr) (cur xs:List Int) (t:TypeId)
  (hd:a.eval d = .slice (some ⟨g,0,none⟩) m c) (hs:a.eval s = .slice (some ad) n cs) (hg:w.heap[g]? = some (.cells (arr .u8 cur) t (0,0))) (hsrc:Src w (some ad) n xs) (hnm:n≤m) (hfit:m≤cur.length)
  (h:∀ w',w'.heap[g]? = some (.cells (arr .u8 (xs ++ cur.drop n)) t (0,0))→Kept (fun x=>x=g) w w'→wpList Tryd.prog ops Q rest (a.put o.dst (.int .i64 (n:Int))) w'):wpList Tryd.prog ops Q (o :: rest) a w:=by
 refine wpList_plain hgd fun K hK=>?_
 have hl:=hsrc.len
 have hrun:=run_copy_row (P := Tryd.prog) w 24 24 o.type 5 g 0 m c ad n cs (arr .u8 cur) t (xs.map (Value.int .u8)) Tryd.underlying24 (by kernel_rfl) hg (by rw [List.length_map,hl];exact (Nat.min_eq_left hnm).symm) (jf hsrc _ rfl) (by rw [List.length_map,hl,aF];omega) (mF _ _)
 unfold Oper.wp execOp
 simp only [ho,resolve,invoke,builtin,Sem.run_bind,Sem.run_pure,Result.andThen_ok,List.map_toArray,List.map_cons,List.map_nil,hd,hs,hrun]
 have e:((arr .u8 cur).toList.take 0 ++ xs.map (Value.int .u8) ++ (arr .u8 cur).toList.drop (0+(xs.map (Value.int .u8)).length)).toArray=arr .u8 (xs ++ cur.drop n):=by
  show ((cur.map (Value.int .u8)).take 0 ++ xs.map (Value.int .u8) ++ (cur.map (Value.int .u8)).drop (0+(xs.map (Value.int .u8)).length)).toArray=((xs ++ cur.drop n).map (Value.int .u8)).toArray
  rw [List.length_map,hl,List.map_append,List.map_drop,List.take_zero,List.nil_append,Nat.zero_add]
 rw [e,List.length_map,hl]
 exact hK _ _ (h _ (setRow_heap w g _ _ t _ hg) ⟨rfl,rfl,rfl,by simp [World.setRow],fun k _ hne=>setRow_other w g k _ hne⟩)
theorem mk64 (w:World):(Instr.makeSlice 24 (.int .i64 64) (.int .i64 64)).run Tryd.prog w = .ok (.slice (some ⟨w.heap.size,0,none⟩) 64 64) (w.alloc (.cells (arr .u8 (List.replicate 64 0)) 5)):=by kernel_rfl
end Go.Proofs.YthdgbgleklkaiaaDoor.Wr
namespace Go.Proofs.YthdgbgleklkaiaaDoor.Wr
open Go.RowKit Lm Cu Sl
theorem dI {a b:World} (h:Ha.eB a) (k:Below a.heap.size a b):Ha.eB b:=fun t ht=>(Kept.of_below k (T:=fun _=>False)).lM (h t ht) id
theorem lF {w:World} {ops:Array Oper} {rest:List Oper} {o:Oper} {a:Act} {Q:Exit→Act→World→Prop} (hgd:o.guard=none) (s x:Operand)
  (ho:o.op = .call { callee := .builtin .append,args := #[s,x],argTypes := #[24, 24] }) (g n m c:Nat) (a2:Addr) (xs ys:List Int) (hs:a.eval s = .slice (some ⟨g,0,none⟩) n n) (hx:a.eval x = .slice (some a2) m c)
  (h1:Src w (some ⟨g,0,none⟩) n xs) (h2:Src w (some a2) m ys) (hm:0 < m) (hle:n+m≤1099511627776)
  (h:∀ g' cap w',Src w' (some ⟨g',0,none⟩) (n+m) (xs ++ ys)→n+m≤cap→Below w.heap.size w w'→wpList Tryd.prog ops Q rest (a.put o.dst (.slice (some ⟨g',0,none⟩) (n+m) cap)) w'):wpList Tryd.prog ops Q (o :: rest) a w:=by
 refine wpList_plain hgd fun K hK=>?_
 have hq:=wY (ops:=ops) (a:=a) (K:=K) (Q:=Q) (E:=True) hgd s x ho g n m c a2 xs ys hs hx h1 h2 hm hle (fun g' cap w' h3 h4 h5=>hK _ _ (h g' cap w' h3 h4 h5))
 rw [if_pos (by simp [Region.wanted,hgd])] at hq
 exact hq
theorem Gx (key msg:List Int) (ad:Addr) (nk ck:Nat) (a2:Addr) (nb cb:Nat) (w:World) (hs:Src w (some ad) nk key) (hb:bytes key) (hnk:nk≤64) (hB:Src w (some a2) nb msg) (bB:bytes msg) (h0:0 < nb) (hN:nb≤1073741824) (hk:Ha.eB w) :
  Calls Tryd.prog 93 #[.slice (some ad) nk ck, .slice (some a2) nb cb] w fun e w'=>e = .returned (.agg (arr .u8 (J4 key msg)))∧Below w.heap.size w w':=by
 have hl:=hs.len
 have hl2:=hB.len
 have hgt:¬ (64:Int) < (nk:Int):=by omega
 obtain ⟨z64,hz⟩:∃ z:List Int,z=List.replicate 64 0:=⟨_,rfl⟩
 have hmk:∀ u:World,(Instr.makeSlice 24 (.int .i64 64) (.int .i64 64)).run Tryd.prog u = .ok (.slice (some ⟨u.heap.size,0,none⟩) 64 64) (u.alloc (.cells (arr .u8 z64) 5)):=by intro u;rw [hz];exact mk64 u
 have hzl:z64.length=64:=by rw [hz];rfl
 have h54:key ++ z64.drop nk=kG key 54 0:=by rw [hz,← Co key 54 (by omega),List.drop_replicate,hl]
 have h92:key ++ z64.drop nk=kG key 92 0:=by rw [hz,← Co key 92 (by omega),List.drop_replicate,hl]
 have hget:=fun b i h=>UO key b i h
 have hset:=fun b i h=>UN key b i h
 have b1:=Cn key 54
 have b2:=Cn key 92
 have l1:(pad key 54).length=64:=jM _ _ _
 have l2:(pad key 92).length=64:=jM _ _ _
 have hsh1:=fun (s:Addr) (c:Nat) (u:World) (h:Src u (some s) (64+nb) (pad key 54 ++ msg)) (hk:Ha.eB u)=>Ha.kE (some s) (64+nb) c _ u h (gq b1 bB) (by omega) hk
 obtain ⟨h1,xW⟩:∃ x,x=Ha.hash (pad key 54 ++ msg):=⟨_,rfl⟩
 have hl1:h1.length=32:=by rw [xW];exact dZ _
 have hb1:bytes h1:=by rw [xW];exact eP _
 have G8:=fun (s:Addr) (c:Nat) (u:World) (h:Src u (some s) (64+32) (pad key 92 ++ h1)) (hk:Ha.eB u)=>Ha.kE (some s) (64+32) c _ u h (gq b2 hb1) (by decide) hk
 have hm:J4 key msg=Ha.hash (pad key 92 ++ h1):=by rw [xW];rfl
 rw [hm]
 rw [← xW] at hsh1
 obtain ⟨h2,hh2⟩:∃ x,x=Ha.hash (pad key 92 ++ h1):=⟨_,rfl⟩
 have hl3:h2.length=32:=by rw [hh2];exact dZ _
 rw [← hh2] at G8 ⊢
 have HSH1:=Lib.hid hsh1
 have HSH2:=Lib.hid G8
 have oH:=Lib.hid l1
 have HL2:=Lib.hid l2
 have wU:=Lib.hid hl1
 have HH2:=Lib.hid hl3
 have HS:=Lib.hid hs
 have HB:=Lib.hid hB
 have H0:=Lib.hid h0
 have HNB:=Lib.hid hN
 have HNK:=Lib.hid hnk
 have uD:=Lib.hid hzl
 have H54:=Lib.hid h54
 have H92:=Lib.hid h92
 have HGET:=Lib.hid hget
 have HSET:=Lib.hid hset
 have vO:=Lib.hid hk
 obtain ⟨zn,hzn⟩:∃ zs:List Int,zs=List.replicate 32 0:=⟨_,rfl⟩
 have dx:Hid (∀ w,(zeroValue 23).run Tryd.prog w = .ok (.agg (arr .u8 zn)) w):=Lib.hid (by intro w;rw [hzn];exact zero_num w)
 have cB:Hid (zn.length=32):=Lib.hid (by rw [hzn];rfl)
 have HI0:=Lib.hid (bM.three w (arr .u8 zn) (arr .u8 z64) (arr .u8 z64) 23 5 5)
 clear hz hzl h54 h92 hget hset b1 b2 l1 l2 hsh1 G8 xW hl1 hb1 hm hh2 hl3 hs hB bB hb hnk h0 hN hk hl hl2 hzn
 go_enter Tryd.func93, Tryd.ntmps93
 go_upto_region 6 with (first|((with_reducible refine aS 4 ?_);refine aj rfl 23 rfl _ (dx.out _) ?_))
 (try simp only [World.size_alloc,Act.put,sA,sZ,sS])
 generalize (((w.alloc (.cells (arr .u8 zn) 23)).alloc (.cells (arr .u8 z64) 5)).alloc (.cells (arr .u8 z64) 5))=wb at HI0 ⊢
 go_upto_region 9 with (first|((with_reducible refine aS 20 ?_);refine wG rfl (.tmp 18) (.tmp 19) rfl (w.heap.size+1) 64 64 nk ck ad z64 key 5 rfl rfl (HI0.out.get 1 rfl) (HS.out.below HI0.out.below) HNK.out (by rw [uD.out];exact Nat.le_refl _) ?_;rw [H54.out];intro w1 hb1 hk1;have HI1:=Lib.hid (HI0.out.put 1 rfl hk1 hb1);clear hb1 hk1)|((with_reducible refine aS 23 ?_);refine wG rfl (.tmp 21) (.tmp 22) rfl (w.heap.size+1+1) 64 64 nk ck ad z64 key 5 rfl rfl (HI1.out.get 2 rfl) (HS.out.below HI1.out.below) HNK.out (by rw [uD.out];exact Nat.le_refl _) ?_;rw [H92.out];intro w2 hb1 hk1;have HI2:=Lib.hid (HI1.out.put 2 rfl hk1 hb1);clear hb1 hk1))
 (try simp only [World.size_alloc,Act.put,sA,sZ,sS])
 go_loopw [8] (fun v wr=>∃ i:Nat,i≤64∧v = .int .i64 i∧bM w wr [(w.heap.size,arr .u8 zn, 23),(w.heap.size+1,arr .u8 (kG key 54 i), 5),(w.heap.size+1+1,arr .u8 (kG key 92 i), 5)]) (fun v _=>64 - (intOf v).toNat)
 case atStart=>exact ⟨0,Nat.zero_le _,rfl,HI2.out⟩
 clear HI2 HI0
 case round =>
 obtain ⟨i,hi,rfl,hB⟩:=hrel
 by_cases hlt:i < 64
 ·have q0:=aN (hB.get 1 rfl) i (by rw [jM];exact hlt)
  have q1:=aC (hB.get 1 rfl) i
  have p0:=aN (hB.get 2 rfl) i (by rw [jM];exact hlt)
  rw [HGET.out _ i hlt] at q0 p0
  have s1:=HSET.out 54 i hlt
  have s2:=HSET.out 92 i hlt
  generalize key.getD i 0=y at q0 p0 s1 s2
  have hb1:=hB.cell 1 rfl i (.int .u8 (bits .xor .u8 y 54))
  have e1:(arr .u8 (kG key 54 i)).setIfInBounds i (.int .u8 (bits .xor .u8 y 54))=arr .u8 (kG key 54 (i+1)):=by rw [aY,s1]
  have hb2:=hb1.cast (l':=[(w.heap.size,arr .u8 zn, 23),(w.heap.size+1,arr .u8 (kG key 54 (i+1)), 5),(w.heap.size+1+1,arr .u8 (kG key 92 i), 5)]) (by rw [← e1];rfl)
  have p1:=aN (hb2.get 2 rfl) i (by rw [jM];exact hlt)
  have p2:=aC (hb2.get 2 rfl) i
  rw [HGET.out _ i hlt] at p1
  have hy:key.getD i 0=y:=by
   have:=aN (hB.get 2 rfl) i (by rw [jM];exact hlt)
   rw [HGET.out _ i hlt,p0] at this
   injection this with this
   injection this with _ this
   exact this.symm
  rw [hy] at p1
  have hb3:=hb2.cell 2 rfl i (.int .u8 (bits .xor .u8 y 92))
  have e2:(arr .u8 (kG key 92 i)).setIfInBounds i (.int .u8 (bits .xor .u8 y 92))=arr .u8 (kG key 92 (i+1)):=by rw [aY,s2]
  have HB3:=Lib.hid (hb3.cast (l':=[(w.heap.size,arr .u8 zn, 23),(w.heap.size+1,arr .u8 (kG key 54 (i+1)), 5),(w.heap.size+1+1,arr .u8 (kG key 92 (i+1)), 5)]) (by rw [← e2];rfl))
  clear hb1 hb2 hb3 e1 e2 s1 s2 hB p0 hy
  go_wp2_with fail
  go_roundw
  case rel=>exact ⟨i+1,by omega,by go_num,HB3.out⟩
  case measure=>simp [intOf];omega
 ·obtain rfl:i=64:=by omega
  have HI3:=Lib.hid hB
  clear hB
  go_wp2_with (first|((with_reducible refine aS 46 ?_);refine lF rfl (.tmp 44) (.tmp 45) rfl (w.heap.size+1) 64 nb cb a2 (pad key 54) msg rfl rfl (bO (HI3.out.get 1 rfl) 64 oH.out) (HB.out.below HI3.out.below) H0.out (by have:=HNB.out;omega) ?_;intro g4 c4 w4 hs4 _ hb4;have EU:=Lib.hid hs4;have HI4:=Lib.hid (HI3.out.kept hb4);clear hs4 hb4)|((with_reducible show Calls _ 14 _ _ _);go_at_call 14; refine (HSH1.out _ _ _ EU.out (dI vO.out HI4.out.below)).mono ?_;rintro e w5 ⟨rfl,hb5⟩;have HI5:=Lib.hid (HI4.out.kept hb5);clear hb5 HSH1)|((with_reducible refine aS 9 ?_);refine aj rfl 23 rfl _ (dx.out _) ?_;have SX:=Lib.hid (HI5.out.alloc (arr .u8 zn) 23);generalize w5.heap.size=g9 at SX ⊢; generalize w5.alloc (.cells (arr .u8 zn) 23)=w6 at SX ⊢)|((with_reducible refine aT 9 ?_);refine ah rfl 23 _ _ rfl (g9) _ _ 23 (SX.out.get 3 rfl) rfl rfl (ay _ _ wU.out cB.out) (bE wU.out) (av _ _) ?_;intro w7 dV iA kZ;have HI7:=Lib.hid (SX.out.put 3 rfl iA dV);clear dV iA kZ)|((with_reducible refine aS 50 ?_);refine lF rfl (.tmp 48) (.tmp 49) rfl (w.heap.size+1+1) 64 32 32 ⟨g9,0,none⟩ (pad key 92) h1 rfl rfl (bO (HI7.out.get 2 rfl) 64 HL2.out) (bO (HI7.out.get 3 rfl) 32 wU.out) (by decide) (by decide) ?_;intro g8 c8 w8 hs8 _ jH;have Je:=Lib.hid hs8;have HI8:=Lib.hid (HI7.out.kept jH);clear hs8 jH)|((with_reducible show Calls _ 14 _ _ _);go_at_call 14; refine (HSH2.out _ _ _ Je.out (dI vO.out HI8.out.below)).mono ?_;rintro e w9 ⟨rfl,dG⟩;have HI9:=Lib.hid (HI8.out.kept dG);clear dG)|((with_reducible refine aT 4 ?_);refine ah rfl 23 _ _ rfl (w.heap.size) _ _ 23 (HI9.out.get 0 rfl) rfl rfl (ay _ _ HH2.out cB.out) (bE HH2.out) (av _ _) ?_;intro TH Ye hk10 hz10;have HI10:=Lib.hid (HI9.out.put 0 rfl hk10 Ye);clear Ye hk10 hz10))
  (try simp only [Exit.then])
  refine bodyPost_ret (results_cell_row rfl _ _ (w.heap.size) 23 _ (0,0) _ rfl (HI10.out.get 0 rfl) Tryd.underlying23 rfl (bE HH2.out)) rfl ?_
  exact ⟨rfl,HI10.out.below⟩
theorem DU (Qu key:List Int) (ad:Addr) (nk ck:Nat) (a2:Addr) (nb cb:Nat) (w:World) (hs:Src w (some ad) nk Qu) (hb:bytes Qu) (hnk:nk≤64) (hB:Src w (some a2) nb key) (bB:bytes key) (h0:0 < nb) (hN:nb≤1073741824) (hk:Ha.eB w) :
  Calls Tryd.prog 75 #[.slice (some ad) nk ck, .slice (some a2) nb cb] w fun e w'=>e = .returned (.agg (arr .u8 (J4 Qu key)))∧Below w.heap.size w w':=by
 have hms:=fun (u:World) (h1:Src u (some ad) nk Qu) (h2:Src u (some a2) nb key) (h3:Ha.eB u)=>Gx Qu key ad nk ck a2 nb cb u h1 hb hnk h2 bB h0 hN h3
 obtain ⟨h1,xW⟩:∃ x,x=J4 Qu key:=⟨_,rfl⟩
 rw [← xW] at hms ⊢
 have wU:Hid (h1.length=32):=Lib.hid (by rw [xW];exact Eh _ _)
 have Bq:=Lib.hid hms
 have HS:=Lib.hid hs
 have Px:=Lib.hid hB
 have vO:=Lib.hid hk
 obtain ⟨zn,hzn⟩:∃ zs:List Int,zs=List.replicate 32 0:=⟨_,rfl⟩
 have dx:Hid (∀ w,(zeroValue 23).run Tryd.prog w = .ok (.agg (arr .u8 zn)) w):=Lib.hid (by intro w;rw [hzn];exact zero_num w)
 have cB:Hid (zn.length=32):=Lib.hid (by rw [hzn];rfl)
 have HI0:=Lib.hid (bM.one w (arr .u8 zn) 23)
 clear xW hms hs hB hzn hb bB hnk hN h0 hk
 go_enter Tryd.func75, Tryd.ntmps75
 go_upto_region 1 with (first|((with_reducible refine aS 4 ?_);refine aj rfl 23 rfl _ (dx.out _) ?_))
 (try simp only [World.size_alloc,Act.put,sA,sZ,sS])
 generalize (w.alloc (.cells (arr .u8 zn) 23))=wb at HI0 ⊢
 go_wp2_with (first|((with_reducible show Calls _ 93 _ _ _);go_at_call 93; refine (Bq.out _ (HS.out.below HI0.out.below) (Px.out.below HI0.out.below) (dI vO.out HI0.out.below)).mono ?_;rintro e w1 ⟨rfl,hb1⟩;have HI1:=Lib.hid (HI0.out.kept hb1);clear hb1)|((with_reducible refine aT 4 ?_);refine ah rfl 23 _ _ rfl (w.heap.size) _ _ 23 (HI1.out.get 0 rfl) rfl rfl (ay _ _ wU.out cB.out) (bE wU.out) (av _ _) ?_;intro w2 hb2 hk2 hz2;have HI2:=Lib.hid (HI1.out.put 0 rfl hk2 hb2);clear hb2 hk2 hz2))
 (try simp only [Exit.then])
 refine bodyPost_ret (results_cell_row rfl _ _ (w.heap.size) 23 _ (0,0) _ rfl (HI2.out.get 0 rfl) Tryd.underlying23 rfl (bE wU.out)) rfl ?_
 exact ⟨rfl,HI2.out.below⟩
end Go.Proofs.YthdgbgleklkaiaaDoor.Wr
namespace Go.Proofs.YthdgbgleklkaiaaDoor.Wr
open Go.RowKit Lm Cu Fp
def n0:List Int:=List.replicate 12 0
def sealed (T D:Nat) (x:List Int):List Int:=Ae.lH (Gg (n32 (bV D 9)) (n32 (bV D T))) n0 x (n32 T)
def Bt (T D:Nat) (x:List Int):List Int:=if bV D T=0 then [] else n32 (bV D 9) ++ sealed T D x
def Qj (T D:Nat):Int:=if bV D T=0 then 21 else 0
theorem n0_len:n0.length=12:=rfl
theorem U5:bytes n0:=by intro x hx;have:=List.eq_of_mem_replicate hx;subst this;decide
theorem yO (T D:Nat) (x:List Int) (h:x.length=32):(sealed T D x).length=48:=by rw [sealed,Ae.Gt,h]
end Go.Proofs.YthdgbgleklkaiaaDoor.Wr
namespace Go.Proofs.YthdgbgleklkaiaaDoor.Ae
open Go.RowKit Lm Po Ch
structure ZI (B:Nat) (w wr:World) (v:Value) (xs:List Int):Prop where
 own:aV wr B v xs
 below:Below B w wr
theorem ZI.app {B:Nat} {w wr w':World} {v v':Value} {xs ys:List Int} (h:ZI B w wr v xs) (hB:B≤wr.heap.size) (o:Obj) (h1:aV w' B v' (xs ++ ys)) (hg:(wr.alloc o).grownBy w' v.ownBlock):ZI B w w' v' (xs ++ ys) :=
 ⟨h1,aQ (h.own.alloc o) hg (h.below.alloc hB o) (Nat.le_trans hB (by simp))⟩
theorem Uw (k:Nat):List.replicate (k+1) (0:Int)=List.replicate k 0 ++ [0]:=List.replicate_succ'
theorem zQ (B:Nat) (v:Value) (xs:List Int) (w:World) (ho:aV w B v xs) (hB:B≤w.heap.size) (hn:xs.length≤2199023255552) :
  Calls Tryd.prog 90 #[v] w fun e w'=>∃ v',e = .returned v'∧aV w' B v' (xs ++ List.replicate (zr xs.length) 0)∧Below B w w':=by
 obtain ⟨s0,c0,hv0, -⟩:=ho.form
 subst hv0
 obtain ⟨n,hnl⟩:∃ n,n=xs.length:=⟨_,rfl⟩
 rw [← hnl] at hn ⊢
 obtain ⟨Z,hZ⟩:∃ Z,Z=zr n:=⟨_,rfl⟩
 rw [← hZ]
 have hz16:Z < 16:=by rw [hZ];exact Nat.mod_lt _ (by decide)
 have hmod0:∀ k,k < Z→(n+k) % 16≠0:=by rw [hZ];unfold zr;omega
 have hmod1:(n+Z) % 16=0:=by rw [hZ];unfold zr;omega
 have HO:=Lib.hid ho
 have xI:=Lib.hid hnl
 have HM0:=Lib.hid hmod0
 have F5:=Lib.hid hmod1
 clear ho hZ hmod0 hmod1
 clear hnl
 go_enter Tryd.func90, Tryd.ntmps90
 go_wp2_with fail
 go_loopg [0] Z (fun g m wr=>∃ (k l:Nat) (sv:Option Addr) (cv:Nat),g+k=Z∧l=n+k∧m = .slice sv l cv∧ZI B w wr (.slice sv l cv) (xs ++ List.replicate k 0))
 case atStart=>exact ⟨0,n,s0,c0,by omega,rfl,rfl,⟨by rw [List.replicate_zero,List.append_nil,xI.out];exact HO.out,Below.refl _ w⟩⟩
 case round =>
  obtain ⟨k,l,sv,cv,hk,hl,rfl,hp⟩:=hrel
  obtain ⟨wo,rfl⟩:∃ wo:World,wo=wr:=⟨_,rfl⟩
  have hl1:l≤140737488355000:=by omega
  have HL:=Lib.hid hl
  have hBw:B≤wo.heap.size:=Nat.le_trans hB hp.below.size
  by_cases hlt:k < Z
  ·have t1:(((l:Int) % 16) != 0)=true:=by have:=HM0.out k hlt;simp;omega
   have HP:=Lib.hid hp
   clear hp hl
   go_wp2_with ((with_reducible refine aS 9 ?_);refine aO rfl _ _ rfl B (.slice sv l cv) (xs ++ List.replicate k 0) rfl (HP.out.own.alloc _) (some ⟨wo.heap.size,0,none⟩) 1 _ [0] rfl (kD _ _) ?_ (Nat.le_trans hBw (by simp)) ?_;(rw [List.length_append,← xI.out,List.length_replicate];omega);intro v5 w5 hown5 fZ mI u6;have qw:=HP.out.app hBw _ hown5 fZ;clear hown5 fZ mI u6;rw [List.append_assoc,← Uw] at qw;obtain ⟨s5,c5,hv5, -⟩:=qw.own.form;rw [List.length_append,← xI.out,List.length_replicate,show n+(k+1)=l+1 by have:=HL.out;omega] at hv5;subst hv5;have Sr:=Lib.hid qw;clear qw)
   go_roundg (gk - 1)
   case measure=>omega
   case rel=>exact ⟨k+1,l+1,s5,c5,by omega,by have:=HL.out;omega,rfl,Sr.out⟩
  ·have ek:k=Z:=by omega
   have t1:(((l:Int) % 16) != 0)=false:=by have:=F5.out;simp;omega
   rw [ek] at hp
   have HP:=Lib.hid hp
   clear hp hl ek
   go_wp2_with fail
   go_ret
   exact ⟨_,rfl,HP.out.own,HP.out.below⟩
theorem zu (n:Nat) (hn:n≤2199023255552) (w:World) :
  Calls Tryd.prog 91 #[.int .i64 (n:Int)] w fun e w'=>∃ v,e = .returned v∧aV w' w.heap.size v (Em n)∧Below w.heap.size w w':=by
 obtain ⟨tk,htk⟩:∃ tk:Nat→List Int,tk=fun i=>(Em n).take i:=⟨_,rfl⟩
 have ht0:tk 0=[]:=by rw [htk];rfl
 have htl:∀ i,i≤8→(tk i).length=i:=by intro i hi;rw [htk];show ((Em n).take i).length=i;rw [List.length_take,nI];omega
 have hts:∀ i,i < 8→tk i ++ [((n / 256 ^ i % 256:Nat):Int)]=tk (i+1):=by
  intro i hi
  rw [htk]
  show (Em n).take i ++ _=(Em n).take (i+1)
  rw [iD _ i 0 (by rw [nI];exact hi),Em,bG,dA _ _ _ _ hi]
 have hte:tk 8=Em n:=by rw [htk];exact List.take_of_length_le (by rw [nI];exact Nat.le_refl _)
 have hby:∀ i,bits .and .i64 ((n:Int) / 2 ^ (8 * i)) 255 % 256=((n / 256 ^ i % 256:Nat):Int):=by
  intro i
  have e1:(n:Int) / 2 ^ (8 * i)=((n / 256 ^ i:Nat):Int):=by
   rw [show (256:Nat) ^ i=2 ^ (8 * i) by rw [Nat.pow_mul],Int.natCast_ediv,Int.natCast_pow]
   rfl
  have hlt:n / 256 ^ i < 9223372036854775808:=Nat.lt_of_le_of_lt (Nat.div_le_self _ _) (by omega)
  have e2:n / 256 ^ i &&& 255=n / 256 ^ i % 256:=Nat.and_two_pow_sub_one_eq_mod _ 8
  have h1:(BitVec.ofInt 64 ((n / 256 ^ i:Nat):Int)).toNat=n / 256 ^ i:=by rw [BitVec.ofInt_natCast,BitVec.toNat_ofNat];exact Nat.mod_eq_of_lt (by omega)
  have h2:(BitVec.ofInt 64 (255:Int)).toNat=255:=by decide
  have e3:bits .and .i64 ((n / 256 ^ i:Nat):Int) 255=((n / 256 ^ i % 256:Nat):Int):=by
   show IntKind.i64.wrap ((BitVec.ofInt 64 ((n / 256 ^ i:Nat):Int) &&& BitVec.ofInt 64 (255:Int)).toNat:Int)=_
   rw [BitVec.toNat_and,h1,h2,e2,IntKind.wrap_i64]
   omega
  rw [e1,e3]
  omega
 have T0:=Lib.hid ht0
 have TL:=Lib.hid htl
 have TS:=Lib.hid hts
 have TE:=Lib.hid hte
 have BY:=Lib.hid hby
 clear htk ht0 htl hts hte hby
 go_enter Tryd.func91, Tryd.ntmps91
 go_wp2_with fail
 go_loopg [3,4] 8 (fun g m iv wr=>∃ (i:Nat) (sv:Option Addr) (cv:Nat),g+i=8∧iv = .int .i64 i∧m = .slice sv i cv∧ZI w.heap.size w wr (.slice sv i cv) (tk i))
 case atStart=>exact ⟨0,none,0,rfl,rfl,rfl,⟨by rw [T0.out];exact aV.nil _ _,Below.refl _ w⟩⟩
 case round =>
  obtain ⟨i,sv,cv,hi,rfl,rfl,hp⟩:=hrel
  obtain ⟨wo,rfl⟩:∃ wo:World,wo=wr:=⟨_,rfl⟩
  have hBw:w.heap.size≤wo.heap.size:=hp.below.size
  have HP:=Lib.hid hp
  clear hp
  by_cases hlt:i < 8
  ·have e2:(8 * (i:Int)).toNat=8 * i:=by omega
   have e3:0≤8 * (i:Int):=by omega
   have e4:8 * (i:Int) < 64:=by omega
   go_wp2_with ((with_reducible refine aS 18 ?_);rw [BY.out];refine aO rfl _ _ rfl w.heap.size (.slice sv i cv) (tk i) rfl (HP.out.own.alloc _) (some ⟨wo.heap.size,0,none⟩) 1 _ [((n / 256 ^ i % 256:Nat):Int)] rfl (kD _ _) ?_ (Nat.le_trans hBw (by simp)) ?_;(rw [TL.out i (by omega)];omega);intro v5 w5 hown5 fZ mI u6;have qw:=HP.out.app hBw _ hown5 fZ;clear hown5 fZ mI u6;rw [TS.out i hlt] at qw;obtain ⟨s5,c5,hv5, -⟩:=qw.own.form;rw [TL.out (i+1) (by omega)] at hv5;subst hv5;have Sr:=Lib.hid qw;clear qw)
   go_roundg (gk - 1)
   case measure=>omega
   case rel=>exact ⟨i+1,s5,c5,by omega,by go_num,rfl,Sr.out⟩
  ·have ei:i=8:=by omega
   have hp2:aV wo w.heap.size (.slice sv i cv) (Em n):=by
    have:=HP.out.own
    rw [show tk i=Em n by rw [ei];exact TE.out] at this
    exact this
   have EZ:=Lib.hid hp2
   clear ei hp2
   go_wp2_with fail
   go_ret
   exact ⟨_,rfl,EZ.out,HP.out.below⟩
end Go.Proofs.YthdgbgleklkaiaaDoor.Ae
namespace Go.Proofs.YthdgbgleklkaiaaDoor.Ae
open Go.RowKit Lm Po Ch
theorem zr_add (a b:Nat) (h:a % 16=0):zr (a+b)=zr b:=by unfold zr;omega
theorem zr_full (a:Nat):(a+zr a) % 16=0:=by unfold zr;omega
theorem msg_ref (beside c:List Int):((((beside ++ List.replicate (zr beside.length) 0) ++ c) ++ List.replicate (zr ((beside ++ List.replicate (zr beside.length) 0) ++ c).length) 0) ++ Em beside.length) ++ Em c.length=msg beside c:=by
 have h:zr ((beside ++ List.replicate (zr beside.length) 0) ++ c).length=zr c.length:=by
  rw [List.length_append,List.length_append,List.length_replicate]
  exact zr_add _ _ (zr_full _)
 rw [h,msg]
 simp only [List.append_assoc]
theorem Mg (xs:List Int) (hl:xs.length=16):(Tryd.prog.info? 122).map (·.size)=some (arr .u8 xs).size:=by rw [aF,hl];kernel_rfl
theorem arrSig (xs:List Int) (hl:xs.length=64):(Tryd.prog.info? 26).map (·.size)=some (arr .u8 xs).size:=by rw [aF,hl];kernel_rfl
theorem B3.of_below {w wr w':World} {c0 c1 c2:Array Value} {t0 t1 t2:TypeId} {B b:Nat} (h:B3 w wr c0 c1 c2 t0 t1 t2) (h1:b < B) (h2:w.heap.size+1+1 < b) (k:Below B wr w'):B3 w w' c0 c1 c2 t0 t1 t2 :=
 ⟨Below.blk k h.b0 (by omega),Below.blk k h.b1 (by omega),Below.blk k h.b2 (by omega),h.below.trans (k.mono (by omega))⟩
theorem Un (key aK c beside:List Int) (sc sb:Option Addr) (n1 n2 c1 c2:Nat) (w:World) (hk:key.length=32) (hn:aK.length=12) (bk:bytes key) (bn:bytes aK) (hc:Src w sc n1 c) (hb:Src w sb n2 beside) (bc:bytes c) (bb:bytes beside) (l1:n1≤274877906944) (l2:n2≤274877906944) :
  Calls Tryd.prog 73 #[.agg (arr .u8 key), .agg (arr .u8 aK), .slice sc n1 c1, .slice sb n2 c2] w fun e w'=>e = .returned (.agg (arr .u8 (tag key aK c beside)))∧Below w.heap.size w w':=by
 have hcl:=hc.len
 have hbl:=hb.len
 obtain ⟨zt,Bn⟩:∃ zs:List Int,zs=List.replicate 16 0:=⟨_,rfl⟩
 have hyt:∀ w,(zeroValue 122).run Tryd.prog w = .ok (.agg (arr .u8 zt)) w:=by intro w;rw [Bn];exact NU w
 have G7:zt.length=16:=by rw [Bn];rfl
 obtain ⟨zb,hzb⟩:∃ zs:List Int,zs=List.replicate 32 0:=⟨_,rfl⟩
 have hyb:∀ w,(zeroValue 23).run Tryd.prog w = .ok (.agg (arr .u8 zb)) w:=by intro w;rw [hzb];exact zero32' w
 have hzbl:zb.length=32:=by rw [hzb];rfl
 obtain ⟨zg,hzg⟩:∃ zs:List Int,zs=List.replicate 64 0:=⟨_,rfl⟩
 have hyg:∀ w,(zeroValue 26).run Tryd.prog w = .ok (.agg (arr .u8 zg)) w:=by intro w;rw [hzg];exact zero64 w
 have hzgl:zg.length=64:=by rw [hzg];rfl
 have M1:=fun w=>ny key aK 0 w hk hn bk bn
 rw [show (0:Int) % 4294967296=0 from rfl] at M1
 have VU:=msg_ref beside c
 rw [hbl,hcl] at VU
 obtain ⟨tg,OX⟩:∃ x,x=tag key aK c beside:=⟨_,rfl⟩
 have tgl:tg.length=16:=by rw [OX,xK]
 obtain ⟨bl,WM⟩:∃ x,x=block key 0 aK:=⟨_,rfl⟩
 have bll:bl.length=64:=by rw [WM,qA]
 have blb:bytes bl:=by rw [WM];exact Ik _ _ _
 obtain ⟨M,hM⟩:∃ x,x=msg beside c:=⟨_,rfl⟩
 have mb:bytes M:=by rw [hM];exact R6 bb bc
 have ml:M.length≤1099511627776:=by rw [hM];have:=msg_len beside c;omega
 obtain ⟨k32,VY⟩:∃ x,x=bl.take 32:=⟨_,rfl⟩
 have k32l:k32.length=32:=by rw [VY,List.length_take];omega
 have k32b:bytes k32:=by rw [VY];exact nN blb 32
 have htg2:aW (Jv (toN k32) (toN M))=tg:=by rw [OX,tag,VY,WM,hM]
 have M5:=fun sa n cap w hs hn=>UJ sa n cap (toN k32) (toN M) w hs (toN_lt mb) (by rw [toN_len];exact k32l) (toN_lt k32b) hn
 rw [toN_nar mb,toN_nar k32b,htg2] at M5
 rw [← hM] at VU
 rw [← WM] at M1
 rw [← OX]
 have S0:=B3.start w (arr .u8 key) (arr .u8 aK) (arr .u8 zt) 23 108 122
 obtain ⟨cs,hcs⟩:∃ cs,cs=k32.map (Value.int .u8):=⟨_,rfl⟩
 have csl:cs.length=32:=by rw [hcs,List.length_map,k32l]
 have cso:∀ v∈cs,v.oneCell'=true:=by rw [hcs];intro v hv;obtain ⟨y,_,rfl⟩:=List.mem_map.1 hv;rfl
 have hsp:(Go.splice (zb.map (Value.int .u8)) 0 cs).toArray=arr .u8 k32:=by
  unfold Go.splice arr
  rw [List.take_zero,List.nil_append,Nat.zero_add,csl,List.drop_of_length_le (by rw [List.length_map,hzbl];exact Nat.le_refl _),List.append_nil,hcs]
 have hrg:∀ (w':World) (g:Nat),w'.heap[g]? = some (.cells (arr .u8 bl) 26 (0,0))→∀ j v,cs[j]? = some v→w'.cell? (Addr.add ⟨g,0,none⟩ j)=some v:=by
  intro w' g hg j v hj
  have:=aM hg 0 cs (by rw [csl,List.drop_zero,bQ,← List.map_take,← VY,hcs])
  have e:Addr.add ⟨g,0,none⟩ j=⟨g,0+j,none⟩:=by
   unfold Addr.add
   split
   ·rename_i h0;rw [h0]
   ·rfl
  rw [e]
  exact this j v hj
 obtain ⟨xa,hxa⟩:∃ x,x=beside ++ List.replicate (zr beside.length) 0:=⟨_,rfl⟩
 obtain ⟨xb,hxb⟩:∃ x,x=xa ++ c:=⟨_,rfl⟩
 obtain ⟨xc,hxc⟩:∃ x,x=xb ++ List.replicate (zr xb.length) 0:=⟨_,rfl⟩
 obtain ⟨xd,hxd⟩:∃ x,x=xc ++ Em n2:=⟨_,rfl⟩
 have hz1:zr beside.length < 16:=Nat.mod_lt _ (by decide)
 have hz2:zr xb.length < 16:=Nat.mod_lt _ (by decide)
 have xal:xa.length≤n2+16:=by rw [hxa,List.length_append,List.length_replicate];omega
 have xbl:xb.length≤n1+n2+16:=by rw [hxb,List.length_append];omega
 have xcl:xc.length≤n1+n2+32:=by rw [hxc,List.length_append,List.length_replicate];omega
 have xdl:xd.length≤n1+n2+40:=by rw [hxd,List.length_append,nI];omega
 rw [← hbl,← hxa,← hxb,← hxc,hbl,← hxd] at VU
 have XA:=Lib.hid hxa.symm
 have XB:=Lib.hid hxb.symm
 have XC:=Lib.hid hxc.symm
 have XD:=Lib.hid hxd.symm
 have XE:=Lib.hid VU
 have XAL:=Lib.hid xal
 have XBL:=Lib.hid xbl
 have XCL:=Lib.hid xcl
 have XDL:=Lib.hid xdl
 clear hxa hxb hxc hxd hz1 hz2 xal xbl xcl xdl
 have bN:=Lib.hid S0
 have HK:=Lib.hid hk
 have HN:=Lib.hid hn
 have HC:=Lib.hid hc
 have HB:=Lib.hid hb
 have mV:=Lib.hid hcl
 have sD:=Lib.hid hbl
 have HYT:=Lib.hid hyt
 have HZT:=Lib.hid G7
 have HYB:=Lib.hid hyb
 have HZB:=Lib.hid hzbl
 have HYG:=Lib.hid hyg
 have HZG:=Lib.hid hzgl
 have F5:=Lib.hid M1
 have HM5:=Lib.hid M5
 have SI:=Lib.hid tgl
 have BLL:=Lib.hid bll
 have ML:=Lib.hid ml
 have K32L:=Lib.hid k32l
 have CSL:=Lib.hid csl
 have CSO:=Lib.hid cso
 have HSP:=Lib.hid hsp
 have HRG:=Lib.hid hrg
 clear S0 hk hn hc hb hcl hbl hyt G7 hyb hzbl hyg hzgl M1 M5 VU tgl bll ml k32l csl cso hsp hrg Bn hzb hzg OX WM blb hM mb VY k32b htg2 bk bn bc bb hcs
 go_enter Tryd.func73, Tryd.ntmps73
 go_wp2_with (first|((with_reducible refine aS 8 ?_);refine aj rfl 122 rfl _ (HYT.out _) ?_)|((with_reducible refine aS 12 ?_);refine ak rfl 23 _ rfl w.heap.size 0 _ 23 (0,0) _ bN.out.b0 rfl .u8 key (au _ _) Tryd.underlying23 rfl (by rw [HK.out];exact qV) ?_)|((with_reducible refine aS 13 ?_);refine ak rfl 108 _ rfl (w.heap.size+1) 0 _ 108 (0,0) _ bN.out.b1 rfl .u8 aK (au _ _) Tryd.underlying108 rfl (by rw [HN.out];exact uT) ?_)|((with_reducible show Calls _ _ _ _ _);go_at_call 89; refine (F5.out _).mono ?_;rintro e w1 ⟨rfl,hbw⟩;have HB1:=Lib.hid (bN.out.after hbw);have hl1:=aR HB1.out.b2;clear hbw)|((with_reducible refine aS 9 ?_);refine aj rfl 26 rfl _ (HYG.out _) ?_;go_simp)|((with_reducible refine aT 9 ?_);refine ah rfl 26 _ _ rfl w1.heap.size _ _ 26 (aL _ _) rfl rfl (by rw [aF,aF,BLL.out,HZG.out]) (arrSig bl BLL.out) (av _ _) ?_;intro w2 hb2 hk2 hz2;have HB2:=Lib.hid ((HB1.out.alloc (.cells (arr .u8 zg) 26)).Ry hk2 (by rintro i rfl;omega));have HG2:=Lib.hid hb2;have hl2:=aR hb2;clear hb2 hk2 hz2)|((with_reducible refine aS 10 ?_);refine aj rfl 23 rfl _ (HYB.out _) ?_))
 have HB3:=Lib.hid (HB2.out.alloc (.cells (arr .u8 zb) 23)).drew
 have HG3:Hid ((w2.alloc (.cells (arr .u8 zb) 23)).drew.heap[w1.heap.size]? = some (.cells (arr .u8 bl) 26 (0,0))):=Lib.hid (bf HG2.out (.cells (arr .u8 zb) 23))
 have HO3:Hid ((w2.alloc (.cells (arr .u8 zb) 23)).drew.heap[w2.heap.size]? = some (.cells (arr .u8 zb) 23 (0,0))):=Lib.hid (aL w2 (.cells (arr .u8 zb) 23))
 (try simp only [Act.put])
 go_still_tail 2,(by kernel_rfl)
 change wpList _ _ _ _ _ (w2.alloc (.cells (arr .u8 zb) 23)).drew
 generalize (w2.alloc (.cells (arr .u8 zb) 23)).drew=w3 at HB3 HG3 HO3 ⊢
 go_wp2_with (first|((with_reducible refine aS 17 ?_);refine wpList_copy_splice rfl (.tmp 15) (.tmp 16) 24 24 rfl 5 Tryd.underlying24 sU _ _ _ _ _ _ rfl rfl w2.heap.size 0 (zb.map (Value.int .u8)) 23 HO3.out cs (by rw [CSL.out];rfl) (fun _=>⟨rfl,⟨w1.heap.size,0,none⟩,rfl,HRG.out _ _ HG3.out⟩) (by rw [CSL.out,List.length_map,HZB.out];omega) CSO.out w2.heap.size w3 (Below.refl _ _) (Nat.le_refl _) ?_;intro w4 hb4 hw4;have hb4':=hb4.out;rw [HSP.out] at hb4';have HO4:=Lib.hid hb4';have qE:=Lib.hid (B3.of_below HB3.out hl2 hl1 hw4);have hl4:=aR hb4';clear hb4 hb4' hw4)|((with_reducible refine aS 19 ?_);refine aO rfl _ _ rfl w4.heap.size (.slice none 0 0) [] rfl (aV.nil _ _) sb n2 c2 beside rfl (HB.out.below qE.out.below) (by simp;omega) (Nat.le_refl _) ?_;intro v5 w5 ho5 hg5 hn5 ha5;rw [List.nil_append] at ho5;have Sv:=Lib.hid ho5;have HW5:=Lib.hid ((Below.refl w4.heap.size w4).grown hg5 (Nat.le_refl _) (fun k hk=>by cases hk));clear ho5 hg5 hn5 ha5)|((with_reducible show Calls _ _ _ w5 _);go_at_call 90; refine (zQ w4.heap.size v5 beside w5 Sv.out HW5.out.size (by rw [sD.out];omega)).mono ?_;rintro e w6 ⟨v6,rfl,BA,hw6⟩;rw [XA.out] at BA;have Jh:=Lib.hid BA;have SN:=Lib.hid (HW5.out.trans hw6);clear BA hw6)|((with_reducible refine aS 23 ?_);refine aO rfl _ _ rfl w4.heap.size v6 xa rfl Jh.out sc n1 c1 c rfl ((HC.out.below qE.out.below).below SN.out) (by have:=XAL.out;omega) SN.out.size ?_;intro v7 w7 ho7 hg7 hn7 ha7;have hw7:=aQ Jh.out hg7 SN.out SN.out.size;rw [XB.out] at ho7;have HO7:=Lib.hid ho7;have HW7:=Lib.hid hw7;clear ho7 hg7 hn7 ha7 hw7)|((with_reducible show Calls _ _ _ w7 _);go_at_call 90; refine (zQ w4.heap.size v7 xb w7 HO7.out HW7.out.size (by have:=XBL.out;omega)).mono ?_;rintro e w8 ⟨v8,rfl,ho8,hw8⟩;rw [XC.out] at ho8;have HO8:=Lib.hid ho8;have HW8:=Lib.hid (HW7.out.trans hw8);clear ho8 hw8)|((with_reducible show Calls _ _ _ w8 _);go_at_call 91; refine (zu n2 (by omega) w8).mono ?_;rintro e w9 ⟨v9,rfl,ho9,hw9⟩;obtain ⟨s9,c9,hv9, -, -, hs9, -⟩:=ho9.form;rw [nI] at hv9 hs9;subst hv9;have HS9:=Lib.hid hs9;have HO9:=Lib.hid (HO8.out.below hw9);have SK:=Lib.hid (HW8.out.trans (hw9.mono HW8.out.size));clear ho9 hw9 hs9)|((with_reducible refine aS 29 ?_);refine aO rfl _ _ rfl w4.heap.size v8 xc rfl HO9.out s9 8 c9 (Em n2) rfl HS9.out (by have:=XCL.out;omega) SK.out.size ?_;intro va wa hoa hga hna haa;have hwa:=aQ HO9.out hga SK.out SK.out.size;rw [XD.out] at hoa;have HOa:=Lib.hid hoa;have HWa:=Lib.hid hwa;clear hoa hga hna haa hwa)|((with_reducible show Calls _ _ _ wa _);go_at_call 91; refine (zu n1 (by omega) wa).mono ?_;rintro e wb ⟨vb,rfl,I9,hwb⟩;obtain ⟨sb',cb,hvb, -, -, hsb, -⟩:=I9.form;rw [nI] at hvb hsb;subst hvb;have HSb:=Lib.hid hsb;have HOb:=Lib.hid (HOa.out.below hwb);have HWb:=Lib.hid (HWa.out.trans (hwb.mono HWa.out.size));clear I9 hwb hsb)|((with_reducible refine aS 33 ?_);refine aO rfl _ _ rfl w4.heap.size va xd rfl HOb.out sb' 8 cb (Em n1) rfl HSb.out (by have:=XDL.out;omega) HWb.out.size ?_;intro vc wc hoc hgc hnc hac;have hwc:=aQ HOb.out hgc HWb.out HWb.out.size;rw [XE.out] at hoc;obtain ⟨sm,cm,hvm, -, -, hsm, -⟩:=hoc.form;subst hvm;have Z6:=Lib.hid hsm;have HWc:=Lib.hid hwc;have HBc:=Lib.hid (qE.out.after hwc);have HOc:=Lib.hid (Below.blk hwc HO4.out hl4);clear hoc hgc hnc hac hwc hsm)|((with_reducible refine aS 34 ?_);refine ak rfl 23 _ rfl w2.heap.size 0 _ 23 (0,0) _ HOc.out rfl .u8 k32 (au _ _) Tryd.underlying23 rfl (by rw [K32L.out];exact qV) ?_)|((with_reducible show Calls _ _ _ wc _);go_at_call 92; refine (HM5.out _ _ _ _ Z6.out ML.out).mono ?_;rintro e wd ⟨rfl,hbw⟩;have dX:=Lib.hid (HBc.out.after hbw);clear hbw)|((with_reducible refine aT 8 ?_);refine ah rfl 122 _ _ rfl (w.heap.size+1+1) _ _ 122 dX.out.b2 rfl rfl (by rw [aF,aF,SI.out,HZT.out]) (Mg tg SI.out) (av _ _) ?_;intro we hbe hke iH;have HBe:=Lib.hid (dX.out.put2 hke hbe);clear hbe hke iH))
 (try simp only [Exit.inBlock,Exit.then])
 refine bodyPost_ret (results_cell_row rfl _ _ (w.heap.size+1+1) 122 _ (0,0) _ rfl HBe.out.b2 Tryd.underlying122 rfl (Mg tg SI.out)) rfl ?_
 exact ⟨rfl,HBe.out.below⟩
end Go.Proofs.YthdgbgleklkaiaaDoor.Ae
