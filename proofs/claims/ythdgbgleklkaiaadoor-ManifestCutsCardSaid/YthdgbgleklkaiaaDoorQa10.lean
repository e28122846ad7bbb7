/- portcullisref1.Int, One: pack.New, Cursor.Raw, Int: The document's times: The document's whole. Condition: as each theorem says. -/
import Derived.BigRegion
import Derived.Test.YthdgbgleklkaiaaDoorQa01
import Derived.Test.YthdgbgleklkaiaaDoorQa04
import Derived.Test.YthdgbgleklkaiaaDoorQa09
set_option linter.unusedSimpArgs false
set_option linter.unusedVariables false
set_option maxRecDepth 100000
set_option maxHeartbeats 16000000
namespace Go.Proofs.YthdgbgleklkaiaaDoor
open Go.RowKit
theorem qB (y:Int):IntKind.u8.wrap (bits .and .i64 y 255)=y % 256:=by
 have h2:(BitVec.ofInt 64 (255:Int)).toNat=255:=by decide
 have e:∀ x:Nat,x &&& 255=x % 256:=fun x=>Nat.and_two_pow_sub_one_eq_mod x 8
 show IntKind.u8.wrap (IntKind.i64.wrap ((BitVec.ofInt 64 y &&& BitVec.ofInt 64 (255:Int)).toNat:Int))=_
 rw [BitVec.toNat_and,h2,e,BitVec.toNat_ofInt,IntKind.wrap_u8]
 have hb:(((y % ((2 ^ 64:Nat):Int)).toNat % 256:Nat):Int)=y % 256:=by omega
 rw [hb,IntWalk.i64_in _ (by omega)]
 omega
theorem zero8b (w:World):(zeroValue 83).run Tryd.prog w = .ok (.agg (arr .u8 (List.replicate 8 0))) w:=by kernel_rfl
def Bz (x:Int) (j:Nat):List Int:=List.replicate (8 - j) 0 ++ (jo x).drop (8 - j)
theorem Vk (x:Int) (j:Nat):(Bz x j).length=8:=by simp [Bz,gW]
theorem Rc (x:Int) (j:Nat) (hj:j < 8):(Bz x j).set (7 - j) (x / 2 ^ (8 * j) % 256)=Bz x (j+1):=by
 have:j=0∨j=1∨j=2∨j=3∨j=4∨j=5∨j=6∨j=7:=by omega
 rcases this with rfl|rfl|rfl|rfl|rfl|rfl|rfl|rfl <;> rfl
theorem Vl (x:Int):Bz x 8=jo x:=by simp [Bz]
theorem down8 (x:Int) (j:Nat) (hj:j < 8):x / 2 ^ (8 * j) / 256=x / 2 ^ (8 * (j+1)):=by
 have:j=0∨j=1∨j=2∨j=3∨j=4∨j=5∨j=6∨j=7:=by omega
 rcases this with rfl|rfl|rfl|rfl|rfl|rfl|rfl|rfl
 all_goals (simp only [Nat.reduceMul,Nat.reduceAdd,Int.reducePow,Nat.mul_zero,Int.pow_zero];omega)
theorem Zu {w:World} {g:Nat} {k:IntKind} {xs:List Int} {t:TypeId} (h:w.heap[g]? = some (.cells (arr k xs) t (0,0))) (i:Nat) (hi:i < xs.length):w.cell? ⟨g,i,none⟩=some (.int k (xs.getD i 0)):=(aG h i).trans (uw _ _ _ hi)
theorem EM {w:World} {g:Nat} {k:IntKind} {xs:List Int} {t:TypeId} (h:w.heap[g]? = some (.cells (arr k xs) t (0,0))) (i:Nat) (x:Int):(w.setCell ⟨g,i,none⟩ (.int k x)).heap[g]? = some (.cells (arr k (xs.set i x)) t (0,0)):=by
 rw [bC h]
 congr 2
 simp [arr,List.map_set]
theorem tu (sa si:Option Addr) (nb cb n ci:Nat) (bs ns:List Int) (w:World) (hs:Src w sa nb bs) (hi:Ag w si n ns) (hnb:nb≤1099511627776) (hn:n≤1048576) (hwf:∀ x∈ns, -9223372036854775808≤x∧x≤9223372036854775807) :
  Calls Tryd.prog 26 #[.slice sa nb cb, .slice si n ci] w fun e w'=>∃ v,e = .returned v∧aV w' w.heap.size v (iy bs ns)∧Below w.heap.size w w':=by
 have hlb:=hs.len
 have hln:=hi.len
 have Px:=Lib.hid hs
 have HI:=Lib.hid hi
 have HLB:=Lib.hid hlb
 have HLN:=Lib.hid hln
 have HWF:=Lib.hid hwf
 have HN0:=Lib.hid (aV.nil w w.heap.size)
 clear hs hi hlb hln hwf
 go_enter Tryd.func26, Tryd.ntmps26
 go_wp2_with ((with_reducible refine aS 11 ?_);refine aO rfl (.const (.slice none 0 0)) (.tmp 10) rfl w.heap.size (.slice none 0 0) [] rfl HN0.out sa nb cb bs rfl Px.out (by simp;omega) (Nat.le_refl _) ?_;intro v1 w1 ho1 hg1 hn1 hb1;have Sz:=Lib.hid ho1;have HB1:=Lib.hid (aQ HN0.out hg1 (Below.refl _ w) (Nat.le_refl _));clear ho1 hg1 hn1 hb1)
 go_loopw [5,6] (fun v i wr=>∃ j:Nat,j≤n∧i = .int .i64 j∧aV wr w.heap.size v (iy bs (ns.take j))∧Below w.heap.size w wr) (fun _ i _=>n - (intOf i).toNat)
 case atStart=>exact ⟨0,Nat.zero_le _,rfl,by simpa [iy] using Sz.out,HB1.out⟩
 case round =>
  obtain ⟨j,hj,rfl,hO,hB⟩:=hrel
  by_cases hlt:j < n
  ·obtain ⟨a,rfl,hc⟩:=HI.out.cell j hlt
   have x0:=fJ hB hc
   have MB:=Lib.hid (JN bs ns j (by rw [HLN.out];exact hlt))
   have hwx:=HWF.out (ns.getD j 0) (by
    have:j < ns.length:=by rw [HLN.out];exact hlt
    simp only [List.getD,List.getElem?_eq_getElem this,Option.getD_some]
    exact List.getElem_mem this)
   have hTl:=fU bs (ns.take j)
   rw [HLB.out,List.length_take,HLN.out,Nat.min_eq_left hj] at hTl
   obtain ⟨va,vc,hv, -⟩:=hO.form
   obtain ⟨T,hT⟩:∃ T,T=iy bs (ns.take j):=⟨_,rfl⟩
   rw [← hT] at hO hTl MB hv
   rw [hTl] at hv
   subst hv
   have uE:=Lib.hid hTl
   have HO:=Lib.hid hO
   have HB:=Lib.hid hB
   clear hT hTl hO hB hc
   generalize ns.getD j 0=x at x0 MB hwx
   obtain ⟨wo,rfl⟩:∃ wo:World,wo=wr:=⟨_,rfl⟩
   have hb0:(wo.alloc (.cells (arr .u8 (List.replicate 8 0)) 83)).heap[wo.heap.size]? = some (.cells (arr .u8 (Bz x 0)) 83 (0,0)):=by
    rw [show Bz x 0=List.replicate 8 0 from rfl]
    exact aL _ _
   have HB0:=Lib.hid hb0
   have HBA:=Lib.hid ((Below.refl wo.heap.size wo).alloc (Nat.le_refl _) (.cells (arr .u8 (List.replicate 8 0)) 83))
   have HX0:=Lib.hid (show x=x / 2 ^ (8 * 0) by simp)
   clear hb0
   go_wp2_with ((with_reducible refine aS 8 ?_);refine aj rfl 83 rfl _ (zero8b _) ?_)
   go_loopw [7,9] (fun u i wr=>∃ j5:Nat,j5≤8∧i = .int .i64 (7 - (j5:Int))∧u = .int .i64 (x / 2 ^ (8 * j5))∧wr.heap[wo.heap.size]? = some (.cells (arr .u8 (Bz x j5)) 83 (0,0))∧Below wo.heap.size wo wr) (fun _ i _=>(1+intOf i).toNat)
   case atStart=>exact ⟨0,Nat.zero_le _,rfl,by rw [← HX0.out],HB0.out,HBA.out⟩
   case round =>
    obtain ⟨j5,hj5,rfl,rfl,hb,hB5⟩:=hrel
    by_cases hlt5:j5 < 8
    ·have y0:=Zu hb (7 - j5) (by rw [Vk _ _];omega)
     have y1:=aC hb (7 - j5)
     have h2:∀ u,u=x / 2 ^ (8 * j5) % 256→(wr.setCell ⟨wo.heap.size,7 - j5,none⟩ (.int .u8 u)).heap[wo.heap.size]? = some (.cells (arr .u8 (Bz x (j5+1))) 83 (0,0)):=by
      rintro u rfl
      rw [EM hb,Rc x j5 hlt5]
     have H2:=Lib.hid h2
     have gu:=Lib.hid (fun u=>hB5.setCell (p:=⟨wo.heap.size,7 - j5,none⟩) (Nat.le_refl _) (.int .u8 u))
     have HD:=Lib.hid (down8 x j5 hlt5)
     have e1:(7 - (j5:Int)).toNat=7 - j5:=by omega
     have e2:0≤7 - (j5:Int):=by omega
     have e3:7 - (j5:Int) < 8:=by omega
     clear hb hB5 h2
     generalize hy:x / 2 ^ (8 * j5)=y at H2 HD ⊢
     go_wp2_with fail
     clear e1 e2 e3
     go_roundw
     case rel=>exact ⟨j5+1,by omega,by go_num,by rw [← HD.out],H2.out _ (qB _),gu.out _⟩
     case measure=>simp [intOf];omega
    ·obtain rfl:j5=8:=by omega
     rw [Vl] at hb
     have hsr:Src wr (some ⟨wo.heap.size,0,none⟩) 8 (jo x):=nu hb (by rw [Nat.mul_one,bQ,List.take_of_length_le (by simp)]) (gW x)
     have ET:=Lib.hid hsr
     have HO9:=Lib.hid (HO.out.below hB5)
     have qd:=Lib.hid (HB.out.trans (hB5.mono HB.out.size))
     clear hb hB5 hsr
     go_wp2_with ((with_reducible refine aS 35 ?_);refine aO rfl (.tmp 33) (.tmp 34) rfl w.heap.size (.slice va (nb+8 * j) vc) T rfl HO9.out (some ⟨wo.heap.size,0,none⟩) 8 8 (jo x) rfl ET.out (by rw [uE.out];omega) qd.out.size ?_;intro v6 w6 BA Hf hn6 hb6;have Jh:=Lib.hid BA;have mU:=Lib.hid Hf;clear BA Hf hn6 hb6)
     go_roundw
     case rel=>exact ⟨j+1,by omega,by go_num,by rw [MB.out];exact Jh.out,aQ HO9.out mU.out qd.out qd.out.size⟩
     case measure=>simp [intOf];omega
  ·have ej:ns.take j=ns:=List.take_of_length_le (by rw [HLN.out];omega)
   rw [ej] at hO
   have HO:=Lib.hid hO
   have HB:=Lib.hid hB
   clear hO hB ej
   go_wp2_with fail
   (try simp only [Exit.inBlock,Exit.then])
   go_ret
   exact ⟨_,rfl,HO.out,HB.out⟩
theorem fO (x:Int) (w:World) (hx : -9223372036854775808≤x∧x≤9223372036854775807) :
  Calls Tryd.prog 30 #[.int .i64 x] w fun e w'=>∃ v,e = .returned v∧aV w' w.heap.size v (jo x)∧Below w.heap.size w w':=by
 have h:=tu none (some ⟨w.heap.size,0,none⟩) 0 0 1 1 [] [x] (w.alloc (.cells #[.int .i64 x] 3)) ⟨rfl,fun i hi=>absurd hi (by omega)⟩ (Gr w x) (by omega) (by omega) (by intro y hy;simp at hy;subst hy;exact hx)
 rw [show iy [] [x]=jo x by simp [iy]] at h
 have H:=Lib.hid h
 have HB:=Lib.hid ((Below.refl _ w).alloc (Nat.le_refl _) (.cells #[.int .i64 x] 3))
 clear h hx
 go_enter Tryd.func30, Tryd.ntmps30
 go_wp2_with (go_at_call 26; refine H.out.mono ?_;rintro e w1 ⟨v1,rfl,ho1,hb1⟩;have Sz:=Lib.hid (ho1.mono (B':=w.heap.size) (by simp));have HB1:=Lib.hid (HB.out.trans (hb1.mono HB.out.size));clear ho1 hb1)
 go_ret
 exact ⟨_,rfl,Sz.out,HB1.out⟩
end Go.Proofs.YthdgbgleklkaiaaDoor
namespace Go.Proofs.YthdgbgleklkaiaaDoor
open Go.RowKit
structure dO (w:World) (p q:Nat) (xs:List Int) (bad:Bool):Prop where
 st:∃ sa c,w.heap[p]? = some (.cells #[.slice sa xs.length c, .bool bad] 81 (0,0))∧Src w sa xs.length xs∧xs.length≤c∧(sa=none→c=0)∧(∀ a,sa=some a→a.block=q)
 ne:p≠q
 lt:p < w.heap.size
theorem dO.kept {T:Nat→Prop} {w w':World} {p q:Nat} {xs:List Int} {bad:Bool} (h:dO w p q xs bad) (k:Kept T w w') (hp:¬ T p) (hq:¬ T q):dO w' p q xs bad:=by
 obtain ⟨⟨sa,c,h1,h2,h3,h4,h5⟩,h6,h7⟩:=h
 exact ⟨⟨sa,c,k.blk h1 hp,h2.kept k (fun a e => .inr (by rw [h5 a e];exact hq)),h3,h4,h5⟩,h6,Nat.lt_of_lt_of_le h7 k.size⟩
theorem dO.below {w w':World} {p q:Nat} {xs:List Int} {bad:Bool} (h:dO w p q xs bad) (k:Below w.heap.size w w'):dO w' p q xs bad:=h.kept (T:=fun _=>False) (Kept.of_below k) id id
theorem dO.drewN {w:World} {p q:Nat} {xs:List Int} {bad:Bool} (h:dO w p q xs bad) (n:Nat):dO (w.drewN n) p q xs bad:=h.kept (T:=fun _=>False) ((Kept.refl _ w).drewN n) id id
theorem Zn (sa:Option Addr) (n c:Nat) (xs:List Int) (w:World) (hs:Src w sa n xs) (hn:n≤1099511627776) :
  Calls Tryd.prog 17 #[.slice sa n c] w fun e w'=>∃ p q,e = .returned (.pointer (some ⟨p,0,none⟩))∧dO w' p q xs false∧w.heap.size≤p∧w.heap.size≤q∧Below w.heap.size w w':=by
 have HC:=Lib.hid (CY sa n c xs w hs hn)
 clear hs hn
 go_enter Tryd.func17, Tryd.ntmps17
 go_wp2_with (go_at_call 39; refine HC.out.mono ?_;rintro e w1 ⟨v1,rfl,ho1,hb1⟩;obtain ⟨s1,c1,rfl,hc1,hm1,hs1,hq1⟩:=ho1.form)
 go_ret
 have hb2:=hb1.alloc hb1.size (.cells #[.slice s1 xs.length c1, .bool false] 81)
 have hs2:Src (w1.alloc (.cells #[.slice s1 xs.length c1, .bool false] 81)) s1 xs.length xs:=hs1.below ((Below.refl _ w1).alloc (Nat.le_refl _) _)
 rcases hq1 with ⟨rfl,rfl,rfl⟩|⟨g,rfl,hg1,hg2⟩
 ·exact ⟨_,w1.heap.size+1,rfl,⟨⟨none,0,aL w1 _,hs2,Nat.le_refl _,fun _=>rfl,fun a e=>(by cases e)⟩,by omega,by simp⟩,hb1.size,by have:=hb1.size;omega,hb2⟩
 ·exact ⟨_,g,rfl,⟨⟨_,c1,aL w1 _,hs2,hc1,fun e=>(by cases e),fun a e=>(by cases e;rfl)⟩,by omega,by simp⟩,hb1.size,hg1,hb2⟩
def jL (xs:List Int) (bad:Bool) (n:Int):Bool := !bad && decide (0≤n) && decide (n≤xs.length)
def jl (xs:List Int) (bad:Bool) (n:Int):List Int:=if jL xs bad n then xs.take n.toNat else []
def oq (xs:List Int) (bad:Bool) (n:Int):List Int:=if jL xs bad n then xs.drop n.toNat else (if bad then xs else [])
theorem iY {xs:List Int} {bad:Bool} {n:Int}:jL xs bad n=true↔bad=false∧0≤n∧n≤xs.length:=by
 simp [jL,and_assoc]
theorem Zk (p q:Nat) (xs:List Int) (n:Int) (w:World) (h:dO w p q xs true) :
  Calls Tryd.prog 18 #[.pointer (some ⟨p,0,none⟩), .int .i64 n] w fun e w'=>e = .returned (.slice none 0 0)∧w=w':=by
 obtain ⟨⟨sa,c,h1,h2,h3,h4,h5⟩,h6,h7⟩:=h
 have c1:w.cell? ⟨p,1,none⟩=some (.bool true):=aG h1 1
 clear h1 h2 h3 h4 h5
 go_enter Tryd.func18, Tryd.ntmps18
 go_wp2
 go_step3
 go_wp2
 rw [Exit.noGoto_ret]
 go_ret
 exact ⟨rfl,rfl⟩
theorem craw_no (p q:Nat) (xs:List Int) (n:Int) (w:World) (h:dO w p q xs false) (hn:n < 0∨(0≤n∧(xs.length:Int) < n)) :
  Calls Tryd.prog 18 #[.pointer (some ⟨p,0,none⟩), .int .i64 n] w fun e w'=>e = .returned (.slice none 0 0)∧dO w' p q [] true∧Kept (· = p) w w'∧w'.heap.size=w.heap.size:=by
 obtain ⟨⟨sa,c,h1,h2,h3,h4,h5⟩,h6,h7⟩:=h
 have c0:w.cell? ⟨p,0,none⟩=some (.slice sa xs.length c):=aG h1 0
 have c1:w.cell? ⟨p,1,none⟩=some (.bool false):=aG h1 1
 have f0:=aC h1 0
 have f1:=aC h1 1
 have fin:∀ w',w'=(w.setCell ⟨p,0,none⟩ (.slice none 0 0)).setCell ⟨p,1,none⟩ (.bool true)→dO w' p q [] true∧Kept (· = p) w w'∧w'.heap.size=w.heap.size:=by
  rintro w' rfl
  refine ⟨⟨⟨none,0,by rw [bC (bC h1 _)];simp,⟨rfl,fun i hi=>absurd hi (Nat.not_lt_zero _)⟩,Nat.le_refl _,fun _=>rfl,fun a e=>(by cases e)⟩,h6,by simpa [World.setCell] using h7⟩,((Kept.refl _ _).at _ _).at _ _,by simp [World.setCell]⟩
 have FIN:=Lib.hid fin
 clear fin h1 h2 h3 h4 h5
 rcases hn with h0|⟨h0,h00⟩
 all_goals
  go_enter Tryd.func18, Tryd.ntmps18
  go_wp2
  refine Dx 0 rfl ?_
  go_wp2
  go_step3
  refine ⟨rfl,?_⟩
  go_wp2
  (try rw [Exit.noGoto_ret])
  go_ret
  exact ⟨rfl,FIN.out _ rfl⟩
theorem craw_ok (p q:Nat) (xs:List Int) (n:Nat) (w:World) (h:dO w p q xs false) (hn:n≤xs.length) (hl:xs.length≤1099511627776) :
  Calls Tryd.prog 18 #[.pointer (some ⟨p,0,none⟩), .int .i64 n] w fun e w'=>∃ v,e = .returned v∧aV w' w.heap.size v (xs.take n)∧dO w' p q (xs.drop n) false∧Kept (· = p) w w':=by
 obtain ⟨⟨sa,c,h1,h2,h3,h4,h5⟩,h6,h7⟩:=h
 have c0:w.cell? ⟨p,0,none⟩=some (.slice sa xs.length c):=aG h1 0
 have c1:w.cell? ⟨p,1,none⟩=some (.bool false):=aG h1 1
 have hcl:=fun c'=>CY sa n c' (xs.take n) w (h2.take n hn) (by omega)
 cases sa with
 | none =>
  have hc:=h4 rfl
  have hx:xs=[]:=List.eq_nil_of_length_eq_zero (by omega)
  subst hx hc
  obtain rfl:n=0:=by simpa using hn
  have fin:∀ w1 v,aV w1 w.heap.size v []→Below w.heap.size w w1→w1.heap[p]? = some (.cells #[.slice none 0 0, .bool false] 81 (0,0))∧∀ w',w'=w1.setCell ⟨p,0,none⟩ (.slice none 0 0)→aV w' w.heap.size v []∧dO w' p q [] false∧Kept (· = p) w w':=by
   intro w1 v ho hb
   have hp:=Below.blk hb h1 h7
   refine ⟨hp,?_⟩
   rintro w' rfl
   exact ⟨ho.kept ((Kept.refl (· = p) w1).at 0 _) (fun g e=>by have:=ho.lt g e;omega),⟨⟨none,0,by rw [bC hp];simp,⟨rfl,fun i hi=>absurd hi (Nat.not_lt_zero _)⟩,Nat.le_refl _,fun _=>rfl,fun a e=>(by cases e)⟩,h6,by have:=hb.size;simp [World.setCell];omega⟩,(Kept.of_below hb).at 0 _⟩
  have FIN:=Lib.hid fin
  have mV:=Lib.hid hcl
  clear fin h1 h2 h3 h4 h5 hcl
  go_enter Tryd.func18, Tryd.ntmps18
  go_wp2
  go_step3
  go_wp2_with (go_at_call 39; refine (mV.out _).mono ?_;rintro e w1 ⟨v1,rfl,ho1,hb1⟩;obtain ⟨p1,p2⟩:=FIN.out w1 v1 ho1 hb1;have d0:w1.cell? ⟨p,0,none⟩=some (.slice none 0 0):=aG p1 0;have d1:=aC p1 0;have P2:=Lib.hid p2;clear p1 p2 ho1 hb1)
  (try rw [Exit.noGoto_ret])
  go_ret
  exact ⟨_,rfl,P2.out _ rfl⟩
 | some ad =>
  have hq:=h5 ad rfl
  have fin:∀ w1 v,aV w1 w.heap.size v (xs.take n)→Below w.heap.size w w1→w1.heap[p]? = some (.cells #[.slice (some ad) xs.length c, .bool false] 81 (0,0))∧∀ w' y m k,y=(if c=n then some ad else some (ad.add n))→m=xs.length - n→k=c - n→w'=w1.setCell ⟨p,0,none⟩ (.slice y m k)→aV w' w.heap.size v (xs.take n)∧dO w' p q (xs.drop n) false∧Kept (· = p) w w':=by
   intro w1 v ho hb
   have hp:=Below.blk hb h1 h7
   refine ⟨hp,?_⟩
   rintro w' y m k rfl rfl rfl rfl
   have hk:Kept (· = p) w (w1.setCell ⟨p,0,none⟩ (.slice (if c=n then some ad else some (ad.add n)) (xs.length - n) (c - n))):=(Kept.of_below hb).at 0 _
   have hs1:=h2.kept hk (fun a e => .inr (by cases e;rw [hq];exact fun e=>h6 e.symm))
   have hs2:Src (w1.setCell ⟨p,0,none⟩ (.slice (if c=n then some ad else some (ad.add n)) (xs.length - n) (c - n))) (if c=n then some ad else some (ad.add n)) (xs.length - n) (xs.drop n):=by
    by_cases e:c=n
    ·have hz:xs.length - n=0:=by omega
     rw [hz,List.drop_eq_nil_of_le (by omega)]
     exact ⟨rfl,fun i hi=>absurd hi (Nat.not_lt_zero _)⟩
    ·rw [if_neg e] at hs1 ⊢
     have:=hs1.part n (xs.length - n) (by omega)
     rwa [List.take_of_length_le (by simp)] at this
   refine ⟨ho.kept ((Kept.refl (· = p) w1).at 0 _) (fun g e=>by have:=ho.lt g e;omega),⟨⟨if c=n then some ad else some (ad.add n),c - n,by rw [bC hp];simp,by rw [List.length_drop];exact hs2,by rw [List.length_drop];omega,fun e=>(by split at e <;> cases e),fun a e=>?_⟩,h6,by have:=hb.size;simp [World.setCell];omega⟩,hk⟩
   split at e
   ·cases e;exact hq
   ·cases e;rw [block_add];exact hq
  have mV:=Lib.hid hcl
  have FIN:=Lib.hid fin
  have h8:¬ (n:Int) < 0:=by omega
  have h9:¬ (xs.length:Int) < (n:Int):=by omega
  have h10:¬ (c:Int) < (n:Int):=by omega
  clear fin h1 h2 h4 h5 hcl hq
  generalize xs.length=L at c0 FIN h9 h3 hn
  go_enter Tryd.func18, Tryd.ntmps18
  go_wp2
  go_step3
  go_wp2_with (go_at_call 39; refine (mV.out _).mono ?_;rintro e w1 ⟨v1,rfl,ho1,hb1⟩;obtain ⟨p1,p2⟩:=FIN.out w1 v1 ho1 hb1;have d0:w1.cell? ⟨p,0,none⟩=some (.slice (some ad) L c):=aG p1 0;have d1:=aC p1 0;have P2:=Lib.hid p2;clear p1 p2 ho1 hb1)
  all_goals
   (try rw [Exit.noGoto_ret])
   go_ret
   exact ⟨_,rfl,P2.out _ _ _ _ (by simp_all) rfl (by omega) rfl⟩
end Go.Proofs.YthdgbgleklkaiaaDoor
namespace Go.Proofs.YthdgbgleklkaiaaDoor.Po
open Go.RowKit Lm
theorem CX (h r:Nat→Nat) (i j:Nat) (hh:∀ j,j < 17→h j < 2 ^ 20) (hr:∀ j,j < 17→r j < 256) (hi:i < 17) (hj:j≤17):sm j (fun j=>h j * eU r j i)≤17 * (2 ^ 20 * (320 * 256)) :=
 Nat.le_trans (sm_le j (2 ^ 20 * (320 * 256)) _ (fun j' hj'=>by
  refine Nat.mul_le_mul (Nat.le_of_lt (hh j' (by omega))) ?_
  unfold eU
  split
  ·have:=hr (i - j') (by omega);omega
  ·have:=hr (i+17 - j') (by omega);omega)) (Nat.mul_le_mul hj (Nat.le_refl _))
theorem Qn (hs rs:List Nat) (w:World) (hl:hs.length=17) (rl:rs.length=17) (hb:∀ x∈hs,x < 2 ^ 20) (rb:∀ x∈rs,x < 256) :
  Calls Tryd.prog 99 #[.agg (arr .i64 (aW hs)), .agg (arr .i64 (aW rs))] w fun e w'=>(∃ v,e = .returned (.agg (arr .i64 (aW (pk v))))∧v < 2 ^ 131∧fold v % (2 ^ 130 - 5)=val 256 hs * val 256 rs % (2 ^ 130 - 5))∧Below w.heap.size w w':=by
 obtain ⟨zs,hzs⟩:∃ zs:List Nat,zs=List.replicate 17 0:=⟨_,rfl⟩
 have hz:∀ w,(zeroValue 147).run Tryd.prog w = .ok (.agg (arr .i64 (aW zs))) w:=by intro w;rw [hzs,iZ];exact Dt w
 have hzl:zs.length=17:=by rw [hzs];rfl
 obtain ⟨h,hh⟩:∃ h:Nat→Nat,h=fun i=>hs.getD i 0:=⟨_,rfl⟩
 obtain ⟨r,hr⟩:∃ r:Nat→Nat,r=fun i=>rs.getD i 0:=⟨_,rfl⟩
 have xW:∀ j,j < 17→h j < 2 ^ 20:=fun j _=>by rw [hh];exact dw hb (by decide) j
 have hr1:∀ j,j < 17→r j < 256:=fun j _=>by rw [hr];exact dw rb (by decide) j
 have hgh:∀ j,hs.getD j 0=h j:=fun j=>by rw [hh]
 have hgr:∀ j,rs.getD j 0=r j:=fun j=>by rw [hr]
 have hC:=fun w=>wP (d9 17 (conv h r)) w (iM _ _) (xM _ _ _ (fun i hi=>Pf h r i xW hr1 hi))
 have hcm:val 256 (d9 17 (conv h r)) % (2 ^ 130 - 5)=val 256 hs * val 256 rs % (2 ^ 130 - 5):=by
  rw [Zl,hh,hr,← mZ 17 hs hl,← mZ 17 rs rl]
 have hcl:=val17 _ (iM 17 (conv h r)) (xM _ _ _ (fun i hi=>Pf h r i xW hr1 hi))
 obtain ⟨v,hv⟩:∃ v,v=fold (fold (val 256 (d9 17 (conv h r)))):=⟨_,rfl⟩
 have hv1:v < 2 ^ 131:=by rw [hv];have:=(zN _ (Hz _ hcl)).1;omega
 have hv2:fold v % (2 ^ 130 - 5)=val 256 hs * val 256 rs % (2 ^ 130 - 5):=by rw [pq,hv,pq,pq,hcm]
 rw [← hv] at hC
 have hup:upto (conv h r) 17 17=d9 17 (conv h r):=TP _ _
 rw [← hup] at hC
 have S0:=B4.start w (arr .i64 (aW hs)) (arr .i64 (aW rs)) (arr .i64 (aW zs)) (arr .i64 (aW zs)) 147 147 147 147
 have hz0:zs=upto (conv h r) 17 0:=by rw [BR,hzs]
 obtain ⟨fv,hfv⟩:∃ fv,fv=pk v:=⟨_,rfl⟩
 have hfl:fv.length=17:=by rw [hfv,JM]
 rw [← hfv] at hC
 have bN:=Lib.hid S0
 have HZ:=Lib.hid hz
 have uD:=Lib.hid hzl
 have HZ0:=Lib.hid hz0
 have HL:=Lib.hid hl
 have RL:=Lib.hid rl
 have HH:=Lib.hid xW
 have HR:=Lib.hid hr1
 have GH:=Lib.hid hgh
 have GR:=Lib.hid hgr
 have HC:=Lib.hid hC
 have HV2:=Lib.hid hv2
 have HFV:=Lib.hid hfv
 have HFL:=Lib.hid hfl
 clear S0 hz hzl hz0 hl rl xW hr1 hgh hgr hC hcm hcl hv hv2 hup hzs hh hr hb rb hfv hfl
 go_enter Tryd.func99, Tryd.ntmps99
 go_wp2_with (first|((with_reducible refine aS 4 ?_);refine aj rfl 147 rfl _ (HZ.out _) ?_)|((with_reducible refine aS 5 ?_);refine aj rfl 147 rfl _ (HZ.out _) ?_))
 go_loopw [6] (fun iv wr=>∃ i:Nat,i≤17∧iv = .int .i64 i∧B4 w wr (arr .i64 (aW hs)) (arr .i64 (aW rs)) (arr .i64 (aW zs)) (arr .i64 (aW (upto (conv h r) 17 i))) 147 147 147 147) (fun iv _=>17 - (intOf iv).toNat)
 case atStart=>exact ⟨0,Nat.zero_le _,rfl,by rw [← HZ0.out];exact bN.out⟩
 clear bN
 case round =>
 obtain ⟨i,hi,rfl,hB⟩:=hrel
 by_cases hlt:i < 17
 ·have HB:=Lib.hid hB
  clear hB
  go_wp2_with fail
  generalize Value.bool (decide ((i:Int) < 17))=u11'
  go_loopw [7,8] (fun uv jv wr=>∃ j u:Nat,j≤i+1∧jv = .int .i64 j∧uv = .int .i64 u∧u=sm j (fun j=>h j * eU r j i)∧B4 w wr (arr .i64 (aW hs)) (arr .i64 (aW rs)) (arr .i64 (aW zs)) (arr .i64 (aW (upto (conv h r) 17 i))) 147 147 147 147) (fun _ jv _=>i+1 - (intOf jv).toNat)
  case atStart=>exact ⟨0,0,Nat.zero_le _,rfl,rfl,rfl,HB.out⟩
  case round =>
   obtain ⟨j,u,hj,rfl,rfl,hu,hB⟩:=hrel
   by_cases hlj:j≤i
   ·have q0:=cZ hB.b0 j (by rw [aH,HL.out];omega)
    have q1:=cZ hB.b1 (i - j) (by rw [aH,RL.out];omega)
    rw [bG,GH.out] at q0
    rw [bG,GR.out] at q1
    have hub:=CX h r i j HH.out HR.out hlt (by omega)
    rw [← hu] at hub
    have hst:u+h j * r (i - j)=sm (j+1) (fun j=>h j * eU r j i):=by
     rw [sm,← hu]
     congr 2
     unfold eU
     rw [if_pos hlj]
    have hx:=HH.out j (by omega)
    have hy:=HR.out (i - j) (by omega)
    have hxy:h j * r (i - j)≤2 ^ 20 * 256:=Nat.mul_le_mul (Nat.le_of_lt hx) (Nat.le_of_lt hy)
    generalize h j=x at q0 hst hx hxy
    generalize r (i - j)=y at q1 hst hy hxy
    obtain ⟨z,hz⟩:∃ z,z=x * y:=⟨_,rfl⟩
    have hm:(x:Int) * (y:Int)=(z:Int):=by rw [hz,Int.natCast_mul]
    rw [← hz] at hst hxy
    have j1:IntKind.i64.wrap ((i:Int) - (j:Int))=(i:Int) - (j:Int):=IntWalk.i64_in _ (by omega)
    have n1:((i:Int) - (j:Int)).toNat=i - j:=by omega
    have p1:0≤(i:Int) - (j:Int):=by omega
    have p2:(i:Int) - (j:Int) < 17:=by omega
    have HB1:=Lib.hid hB
    have HST:=Lib.hid hst
    clear hB hu hst hz
    go_wp2_with fail
    go_region
    clear j1 n1 p1 p2 hm q0 q1
    go_wp2_with fail
    go_roundw
    case rel=>exact ⟨j+1,u+z,by omega,by go_num,by go_num,HST.out,HB1.out.drew⟩
    case measure=>simp [intOf];omega
   ·have ej:j=i+1:=by omega
    rw [ej] at hu
    have HU:=Lib.hid hu
    have HB1:=Lib.hid hB
    clear hu hB
    go_wp2_with fail
    generalize Value.bool (decide ((j:Int)≤i))=u16'
    go_loopw [7,9] (fun uv jv wr=>∃ j u:Nat,i+1≤j∧j≤17∧jv = .int .i64 j∧uv = .int .i64 u∧u=sm j (fun j=>h j * eU r j i)∧B4 w wr (arr .i64 (aW hs)) (arr .i64 (aW rs)) (arr .i64 (aW zs)) (arr .i64 (aW (upto (conv h r) 17 i))) 147 147 147 147) (fun _ jv _=>17 - (intOf jv).toNat)
    case atStart=>exact ⟨i+1,u,by omega,by omega,by go_num,rfl,HU.out,HB1.out⟩
    case round =>
     obtain ⟨j,u,hj0,hj,rfl,rfl,hu,hB⟩:=hrel
     by_cases hlj:j < 17
     ·have q0:=cZ hB.b0 j (by rw [aH,HL.out];omega)
      have q1:=cZ hB.b1 (i+17 - j) (by rw [aH,RL.out];omega)
      rw [bG,GH.out] at q0
      rw [bG,GR.out] at q1
      have hub:=CX h r i j HH.out HR.out hlt (by omega)
      rw [← hu] at hub
      have hst:u+h j * (320 * r (i+17 - j))=sm (j+1) (fun j=>h j * eU r j i):=by
       rw [sm,← hu]
       congr 2
       unfold eU
       rw [if_neg (by omega)]
      have hx:=HH.out j (by omega)
      have hy:=HR.out (i+17 - j) (by omega)
      have hxy:h j * (320 * r (i+17 - j))≤2 ^ 20 * (320 * 256):=Nat.mul_le_mul (Nat.le_of_lt hx) (by omega)
      generalize h j=x at q0 hst hx hxy
      generalize r (i+17 - j)=y at q1 hst hy hxy
      obtain ⟨z,hz⟩:∃ z,z=x * (320 * y):=⟨_,rfl⟩
      have hm:320 * (x:Int) * (y:Int)=(z:Int):=by rw [hz,Int.natCast_mul,Int.natCast_mul,Int.mul_comm 320,Int.mul_assoc];rfl
      rw [← hz] at hst hxy
      have j0:IntKind.i64.wrap ((i:Int)+17)=(i:Int)+17:=IntWalk.i64_in _ (by omega)
      have j1:IntKind.i64.wrap ((i:Int)+17 - (j:Int))=(i:Int)+17 - (j:Int):=IntWalk.i64_in _ (by omega)
      have n1:((i:Int)+17 - (j:Int)).toNat=i+17 - j:=by omega
      have p1:0≤(i:Int)+17 - (j:Int):=by omega
      have p2:(i:Int)+17 - (j:Int) < 17:=by omega
      have HB2:=Lib.hid hB
      have HST:=Lib.hid hst
      clear hB hu hst hz
      go_wp2_with fail
      go_region
      clear j0 j1 n1 p1 p2 hm q0 q1
      go_wp2_with fail
      go_roundw
      case rel=>exact ⟨j+1,u+z,by omega,by omega,by go_num,by go_num,HST.out,HB2.out.drew⟩
      case measure=>simp [intOf];omega
     ·have ej:j=17:=by omega
      rw [ej] at hu
      have hb1:=hB.set3 i (.int .i64 ((u:Nat):Int))
      have hu2:u=conv h r i:=hu
      rw [aY,← dn,hu2,Gj] at hb1
      rw [← hu2] at hb1
      have q2:=cZ hB.b3 i (by rw [aH,yu];omega)
      have q3:=aC hB.b3 i
      have HB2:=Lib.hid hb1
      clear hu hB hb1 ej hu2
      go_wp2_with fail
      go_roundw
      case rel=>exact ⟨i+1,by omega,by go_num,HB2.out⟩
      case measure=>simp [intOf];omega
 ·have e4:i=17:=by omega
  rw [e4] at hB
  have HB:=Lib.hid hB
  obtain ⟨cs,hcs⟩:∃ cs,cs=upto (conv h r) 17 17:=⟨_,rfl⟩
  have mV:Hid (cs.length=17):=Lib.hid (by rw [hcs,yu])
  rw [← hcs] at HB HC
  clear hB e4 hcs
  go_wp2_with (first|((with_reducible refine aS 52 ?_);refine ak rfl 147 _ rfl (w.heap.size+1+1+1) 0 _ 147 (0,0) _ HB.out.b3 rfl .i64 (aW cs) (au _ _) Tryd.underlying147 rfl (nE cs mV.out) ?_)|((with_reducible show Calls _ _ _ _ _);go_at_call 102; refine (HC.out _).mono ?_;rintro e w5 ⟨rfl,hbw⟩;have gu:=Lib.hid (HB.out.after hbw);clear hbw)|((with_reducible show wpList _ _ _ (Oper.mk none _ _ _ _ _ :: _) _ _);refine ah rfl 147 _ _ rfl (w.heap.size+1+1) _ _ 147 gu.out.b2 rfl rfl ((jZ fv HFL.out).trans (jZ zs uD.out).symm) (jT fv HFL.out) (av _ _) ?_;intro w7 dV iA kZ;have eX:=Lib.hid (gu.out.put2 iA dV);clear dV iA kZ))
  (try simp only [Exit.inBlock,Exit.then])
  refine bodyPost_ret (results_cell_row rfl _ _ (w.heap.size+1+1) 147 _ (0,0) _ rfl eX.out.b2 Tryd.underlying147 rfl (jT fv HFL.out)) rfl ?_
  exact ⟨⟨v,by rw [HFV.out],hv1,HV2.out⟩,eX.out.below⟩
end Go.Proofs.YthdgbgleklkaiaaDoor.Po
namespace Go.Proofs.YthdgbgleklkaiaaDoor.Po
open Go.RowKit Lm
def qY (c:Nat) (hs:List Nat) (i:Nat):List Nat:=bD 256 i (val 256 (hs.take i)+c) ++ hs.drop i
theorem Q5 (c:Nat) (hs:List Nat):qY c hs 0=hs:=by simp [qY,bD]
theorem Vd (c:Nat) (hs:List Nat) (i:Nat) (h:i≤hs.length):(qY c hs i).length=hs.length:=by simp [qY,aI];omega
theorem Ve (c:Nat) (hs:List Nat) (i:Nat):(qY c hs i).getD i 0=hs.getD i 0:=by
 simp only [qY,List.getD]
 rw [List.getElem?_append_right (by rw [aI];exact Nat.le_refl _),aI,Nat.sub_self,List.getElem?_drop,Nat.add_zero]
theorem Q6 (c:Nat) (hs:List Nat) (i u:Nat) (h:i < hs.length) (hu:u=(val 256 (hs.take i)+c) / 256 ^ i) :
  (qY c hs i).set i ((u+hs.getD i 0) % 256)=qY c hs (i+1)∧(u+hs.getD i 0) / 256=(val 256 (hs.take (i+1))+c) / 256 ^ (i+1):=by
 have hv:=bS 256 hs i h
 have hp:0 < 256 ^ i:=Nat.pow_pos (by decide)
 have hv2:val 256 (hs.take (i+1))+c=(val 256 (hs.take i)+c)+256 ^ i * hs.getD i 0:=by rw [hv];omega
 have hq:(val 256 (hs.take (i+1))+c) / 256 ^ i=u+hs.getD i 0:=by rw [hv2,Nat.add_mul_div_left _ _ hp,← hu]
 constructor
 ·rw [qY,qY,lC,hq,hv2,nM 256 (by decide),List.set_append_right _ _ (by rw [aI];exact Nat.le_refl _),aI,Nat.sub_self,List.append_assoc]
  congr 1
  rw [List.drop_eq_getElem_cons h,List.set_cons_zero]
  rfl
 ·rw [← hq,Nat.pow_succ,Nat.div_div_eq_div_mul]
theorem Tj (x:Nat) (h1:2 ^ 130≤x) (h2:x < 2 ^ 131):(bD 256 17 x).set 16 ((bD 256 17 x).getD 16 0 - 4)=bD 256 17 (x - 2 ^ 130):=by
 have e1:bD 256 17 x=bD 256 16 x ++ [x / 256 ^ 16 % 256]:=lC 256 16 x
 have e2:bD 256 17 (x - 2 ^ 130)=bD 256 16 (x - 2 ^ 130) ++ [(x - 2 ^ 130) / 256 ^ 16 % 256]:=lC 256 16 _
 have e3:bD 256 16 x=bD 256 16 (x - 2 ^ 130):=by
  rw [← nM 256 (by decide) 16 (x - 2 ^ 130) 4]
  congr 1
  omega
 rw [dA _ _ _ _ (by decide),e1,e2,e3,List.set_append_right _ _ (by rw [aI];exact Nat.le_refl _),aI,Nat.sub_self,List.set_cons_zero]
 congr 2
 omega
theorem Qi (hs:List Nat) (w:World) (hl:hs.length=17) (hb:∀ x∈hs,x < 2 ^ 45) (hv:val 256 hs < 2 ^ 131) :
  Calls Tryd.prog 100 #[.agg (arr .i64 (aW hs))] w fun e w'=>e = .returned (.agg (arr .i64 (aW (bD 256 17 (val 256 hs % (2 ^ 130 - 5))))))∧Below w.heap.size w w':=by
 obtain ⟨zs,hzs⟩:∃ zs:List Nat,zs=List.replicate 17 0:=⟨_,rfl⟩
 have hz:∀ w,(zeroValue 147).run Tryd.prog w = .ok (.agg (arr .i64 (aW zs))) w:=by intro w;rw [hzs,iZ];exact Dt w
 have hzl:zs.length=17:=by rw [hzs];rfl
 have hC:=fun w=>wP hs w hl hb
 obtain ⟨-, hvl⟩:=zN _ hv
 have hmod:fold (fold (val 256 hs)) % (2 ^ 130 - 5)=val 256 hs % (2 ^ 130 - 5):=by rw [pq,pq]
 generalize fold (fold (val 256 hs))=v at hC hvl hmod
 rw [pk_dig v hvl] at hC
 rw [← hmod]
 obtain ⟨vs,hvs⟩:∃ vs,vs=bD 256 17 v:=⟨_,rfl⟩
 have vl:vs.length=17:=by rw [hvs,aI]
 have vb:∀ x∈vs,x < 256:=by rw [hvs];exact gV _ (by decide) _ _
 have vv:val 256 vs=v:=by rw [hvs,eT];exact Nat.mod_eq_of_lt (by omega)
 rw [← hvs] at hC
 obtain ⟨rs,hrs⟩:∃ rs,rs=bD 256 17 (v % (2 ^ 130 - 5)):=⟨_,rfl⟩
 have rl:rs.length=17:=by rw [hrs,aI]
 have hend:qY 5 vs 17=bD 256 17 (v+5):=by rw [qY,List.take_of_length_le (by omega),vv,List.drop_of_length_le (by omega),List.append_nil]
 have WJ:(bD 256 17 (v+5)).getD 16 0=(v+5) / 256 ^ 16:=by rw [dA _ _ _ _ (by decide)];omega
 have hlo:(v+5) / 256 ^ 16 < 4→rs=vs:=by intro h;rw [hrs,hvs,Nat.mod_eq_of_lt (by omega)]
 have hhi:4≤(v+5) / 256 ^ 16→(qY 5 vs 17).set 16 ((v+5) / 256 ^ 16 - 4)=rs:=by
  intro h
  rw [hend,← WJ,Tj (v+5) (by omega) (by omega),hrs]
  refine congrArg (bD 256 17) ?_
  omega
 rw [← hrs]
 have S0:=B2.start w (arr .i64 (aW hs)) (arr .i64 (aW zs)) 147 147
 obtain ⟨d,hd⟩:∃ d,d=(v+5) / 256 ^ 16:=⟨_,rfl⟩
 have hd2:d < 1152921504606846976:=by omega
 rw [← hd] at WJ hlo hhi
 rw [← hend] at WJ
 have bN:=Lib.hid S0
 have HL:=Lib.hid hl
 have HZ:=Lib.hid hz
 have uD:=Lib.hid hzl
 have HC:=Lib.hid hC
 have VL:=Lib.hid vl
 have VB:=Lib.hid vb
 have RL:=Lib.hid rl
 have G16:=Lib.hid WJ
 have HLO:=Lib.hid hlo
 have HHI:=Lib.hid hhi
 clear S0 hl hz hzl hC vl vb rl WJ hlo hhi hend vv hmod hvs hrs hzs hd hb hv hvl
 go_enter Tryd.func100, Tryd.ntmps100
 go_wp2_with (first|((with_reducible refine aS 2 ?_);refine aj rfl 147 rfl _ (HZ.out _) ?_)|((with_reducible refine aS 6 ?_);refine ak rfl 147 _ rfl w.heap.size 0 _ 147 (0,0) _ bN.out.b0 rfl .i64 (aW hs) (au _ _) Tryd.underlying147 rfl (nE hs HL.out) ?_)|((with_reducible show Calls _ _ _ _ _);go_at_call 102; refine (HC.out _).mono ?_;rintro e w5 ⟨rfl,hbw⟩;have gu:=Lib.hid (bN.out.after hbw);clear hbw)|((with_reducible refine aT 1 ?_);refine ah rfl 147 _ _ rfl w.heap.size _ _ 147 gu.out.b0 rfl rfl ((jZ vs VL.out).trans (jZ hs HL.out).symm) (jT vs VL.out) (av _ _) ?_;intro w6 hb6 xV Ka;have kQ:=Lib.hid (gu.out.put0 xV hb6);have hl6:=aR kQ.out.b1;clear hb6 xV Ka)|((with_reducible refine aS 8 ?_);refine ak rfl 147 _ rfl w.heap.size 0 _ 147 (0,0) _ kQ.out.b0 rfl .i64 (aW vs) (au _ _) Tryd.underlying147 rfl (nE vs VL.out) ?_)|((with_reducible refine aS 3 ?_);refine aj rfl 147 rfl _ (HZ.out _) ?_;go_simp)|((with_reducible refine aT 3 ?_);refine ah rfl 147 _ _ rfl w6.heap.size _ _ 147 (aL _ _) rfl rfl ((jZ vs VL.out).trans (jZ zs uD.out).symm) (jT vs VL.out) (av _ _) ?_;intro w7 dV iA kZ;have eX:=Lib.hid ((kQ.out.alloc (.cells (arr .i64 (aW zs)) 147)).Ry iA (by rintro i rfl;omega));have HG7:=Lib.hid dV;clear dV iA kZ))
 obtain ⟨g,hg⟩:∃ g,g=w6.heap.size:=⟨_,rfl⟩
 rw [← hg] at HG7 hl6 ⊢
 clear hg
 (try simp only [Act.put])
 go_loopw [4,5] (fun uv iv wr=>∃ i u:Nat,i≤17∧iv = .int .i64 i∧uv = .int .i64 u∧u≤5∧u=(val 256 (vs.take i)+5) / 256 ^ i∧wr.heap[g]? = some (.cells (arr .i64 (aW (qY 5 vs i))) 147 (0,0))∧B2 w wr (arr .i64 (aW vs)) (arr .i64 (aW zs)) 147 147) (fun _ iv _=>17 - (intOf iv).toNat)
 case atStart=>exact ⟨0,5,Nat.zero_le _,rfl,rfl,Nat.le_refl _,by simp [val],by rw [Q5];exact HG7.out,eX.out⟩
 case round =>
  obtain ⟨i,u,hi,rfl,rfl,hu2,hu,hG,hB⟩:=hrel
  have ml:=Vd 5 vs i (by rw [VL.out];omega)
  rw [VL.out] at ml
  by_cases hli:i < 17
  ·obtain ⟨m1,m2⟩:=Q6 5 vs i u (by rw [VL.out];omega) hu
   have q0:=cZ hG i (by rw [aH,ml];omega)
   have q3:=aC hG i
   rw [bG,Ve] at q0
   have hx2:=dw VB.out (by decide) i
   generalize vs.getD i 0=x at q0 m1 m2 hx2
   have hand:=rE (u+x) (by omega)
   rw [Int.natCast_add] at hand
   have hg1:(wr.setCell ⟨g,i,none⟩ (.int .i64 (bits .and .i64 ((u:Int)+(x:Int)) 255))).heap[g]? = some (.cells (arr .i64 (aW (qY 5 vs (i+1)))) 147 (0,0)):=by
    rw [hand,bC hG,aY,← dn,m1]
   have rZ:=Lib.hid hg1
   have HB1:=Lib.hid (hB.far g i (.int .i64 (bits .and .i64 ((u:Int)+(x:Int)) 255)) (by omega))
   have M2:=Lib.hid m2
   clear m1 m2 hg1 hB hG hu ml hand
   go_wp2_with fail
   go_roundw
   case rel=>exact ⟨i+1,(u+x) / 256,by omega,by go_num,rfl,by omega,M2.out,rZ.out,HB1.out⟩
   case measure=>simp [intOf];omega
  ·have ei:i=17:=by omega
   rw [ei] at hu hG ml
   have q0:=cZ hG 16 (by rw [aH,ml];omega)
   have q3:=aC hG 16
   rw [bG,G16.out] at q0
   by_cases hc:4≤d
   ·have hg1:(wr.setCell ⟨g,16,none⟩ (.int .i64 ((d:Int) - 4))).heap[g]? = some (.cells (arr .i64 (aW rs)) 147 (0,0)):=by
     rw [show (d:Int) - 4=((d - 4:Nat):Int) by omega,bC hG,aY,← dn,HHI.out hc]
    have rZ:=Lib.hid hg1
    have HB1:=Lib.hid (hB.far g 16 (.int .i64 ((d:Int) - 4)) (by omega))
    have hc2:4≤(d:Int):=by omega
    clear hg1 hB hG hu ml ei hc
    go_wp2_with (first|((with_reducible refine aS 31 ?_);refine ak rfl 147 _ rfl g 0 _ 147 (0,0) _ rZ.out rfl .i64 (aW rs) (au _ _) Tryd.underlying147 rfl (nE rs RL.out) ?_)|((with_reducible refine aT 2 ?_);refine ah rfl 147 _ _ rfl (w.heap.size+1) _ _ 147 HB1.out.b1 rfl rfl ((jZ rs RL.out).trans (jZ zs uD.out).symm) (jT rs RL.out) (av _ _) ?_;intro w8 jH nU qZ;have fM:=Lib.hid (HB1.out.JJ nU jH);clear jH nU qZ))
    (try simp only [Exit.inBlock,Exit.then])
    refine bodyPost_ret (results_cell_row rfl _ _ (w.heap.size+1) 147 _ (0,0) _ rfl fM.out.b1 Tryd.underlying147 rfl (jT rs RL.out)) rfl ?_
    exact ⟨rfl,fM.out.below⟩
   ·have hrv:=HLO.out (by omega)
    have HB1:=Lib.hid hB
    have hc2:(d:Int) < 4:=by omega
    have HRV:=Lib.hid hrv
    clear hB hG hu ml ei hc hrv
    go_wp2_with (first|((with_reducible refine aS 32 ?_);refine ak rfl 147 _ rfl w.heap.size 0 _ 147 (0,0) _ HB1.out.b0 rfl .i64 (aW vs) (au _ _) Tryd.underlying147 rfl (nE vs VL.out) ?_)|((with_reducible refine aT 2 ?_);refine ah rfl 147 _ _ rfl (w.heap.size+1) _ _ 147 HB1.out.b1 rfl rfl ((jZ vs VL.out).trans (jZ zs uD.out).symm) (jT vs VL.out) (av _ _) ?_;intro w8 jH nU qZ;have fM:=Lib.hid (HB1.out.JJ nU jH);clear jH nU qZ))
    (try simp only [Exit.inBlock,Exit.then])
    refine bodyPost_ret (results_cell_row rfl _ _ (w.heap.size+1) 147 _ (0,0) _ rfl fM.out.b1 Tryd.underlying147 rfl (jT vs VL.out)) rfl ?_
    exact ⟨by rw [HRV.out],fM.out.below⟩
end Go.Proofs.YthdgbgleklkaiaaDoor.Po
