/- pack.New, Cursor.Raw, Int: portcullisref1.padded, the turned words of the document's hash. The document's hash (14). Condition: as each theorem says. -/
import Derived.Deep.LoopGhost
import Derived.StillTailTactics
import Derived.Test.YthdgbgleklkaiaaDoorQb04
import Derived.Test.YthdgbgleklkaiaaDoorQb05
import Derived.Test.YthdgbgleklkaiaaDoorQb10
import Derived.Test.YthdgbgleklkaiaaDoorQb11
import Derived.Test.YthdgbgleklkaiaaDoorQb13
open Go.Lib renaming hid→acD
open List renaming replicate→acE,length_append→acH,take_of_length_le→acJ,append_assoc→acK,length_replicate→acL,drop_zero→acN,length_drop→acT,length_singleton→acW,length_cons→acX,take_succ_cons→adA,take_zero→adB,drop_succ_cons→adC
open Nat renaming le_refl→acF,le_trans→acI,not_lt_zero→acO,mod_eq_of_lt→acR,zero_le→acS,and_two_pow_sub_one_eq_mod→acU
open BitVec renaming ofInt→acG,ofInt_natCast→acP,toNat_ofNat→acQ,toNat_and→acV
open Int renaming eq_ofNat_of_zero_le→acM
set_option linter.unusedSimpArgs false
set_option linter.unusedVariables false
set_option maxRecDepth 100000
set_option maxHeartbeats 16000000
namespace Go.Proofs.YthdgbgleklkaiaaDoor
open Go.RowKit
structure dQ (w:World) (p q:Nat) (xs:List Int) (bad:Bool):Prop where
 st:∃ sa c,w.heap[p]? = some (.cells #[.slice sa xs.length c, .bool bad] 81 (0,0))∧Src w sa xs.length xs∧xs.length≤c∧(sa=none→c=0)∧(∀ a,sa=some a→a.block=q)
 ne:p≠q
 lt:p < w.heap.size
theorem dQ.kept {T:Nat→Prop} {w w':World} {p q:Nat} {xs:List Int} {bad:Bool} (h:dQ w p q xs bad) (k:Kept T w w') (hp:¬ T p) (hq:¬ T q):dQ w' p q xs bad:=by
 obtain ⟨⟨sa,c,h1,h2,h3,h4,h5⟩,h6,h7⟩:=h
 exact ⟨⟨sa,c,k.blk h1 hp,h2.kept k (fun a e => .inr (by rw [h5 a e];exact hq)),h3,h4,h5⟩,h6,Nat.lt_of_lt_of_le h7 k.size⟩
theorem dQ.below {w w':World} {p q:Nat} {xs:List Int} {bad:Bool} (h:dQ w p q xs bad) (k:Below w.heap.size w w'):dQ w' p q xs bad:=h.kept (T:=fun _=>False) (Kept.of_below k) id id
theorem dQ.drewN {w:World} {p q:Nat} {xs:List Int} {bad:Bool} (h:dQ w p q xs bad) (n:Nat):dQ (w.drewN n) p q xs bad:=h.kept (T:=fun _=>False) ((Kept.refl _ w).drewN n) id id
theorem abG (sa:Option Addr) (n c:Nat) (xs:List Int) (w:World) (hs:Src w sa n xs) (hn:n≤1099511627776) :
  Calls Tryd.prog 17 #[.slice sa n c] w fun e w'=>∃ p q,e = .returned (.pointer (some ⟨p,0,none⟩))∧dQ w' p q xs false∧w.heap.size≤p∧w.heap.size≤q∧Below w.heap.size w w':=by
 have HC:=acD (vS sa n c xs w hs hn)
 clear hs hn
 go_enter Tryd.func17, Tryd.ntmps17
 go_wp2_with (go_at_call 39; refine HC.out.mono ?_;rintro e w1 ⟨v1,rfl,ho1,hb1⟩;obtain ⟨s1,c1,rfl,hc1,hm1,hs1,hq1⟩:=ho1.form)
 go_ret
 have hb2:=hb1.alloc hb1.size (.cells #[.slice s1 xs.length c1, .bool false] 81)
 have hs2:Src (w1.alloc (.cells #[.slice s1 xs.length c1, .bool false] 81)) s1 xs.length xs:=hs1.below ((Below.refl _ w1).alloc (acF _) _)
 rcases hq1 with ⟨rfl,rfl,rfl⟩|⟨g,rfl,hg1,hg2⟩
 ·exact ⟨_,w1.heap.size+1,rfl,⟨⟨none,0,aG w1 _,hs2,acF _,fun _=>rfl,fun a e=>(by cases e)⟩,by omega,by simp⟩,hb1.size,by have:=hb1.size;omega,hb2⟩
 ·exact ⟨_,g,rfl,⟨⟨_,c1,aG w1 _,hs2,hc1,fun e=>(by cases e),fun a e=>(by cases e;rfl)⟩,by omega,by simp⟩,hb1.size,hg1,hb2⟩
def jT (xs:List Int) (bad:Bool) (n:Int):Bool := !bad && decide (0≤n) && decide (n≤xs.length)
def jy (xs:List Int) (bad:Bool) (n:Int):List Int:=if jT xs bad n then xs.take n.toNat else []
def oO (xs:List Int) (bad:Bool) (n:Int):List Int:=if jT xs bad n then xs.drop n.toNat else (if bad then xs else [])
theorem je {xs:List Int} {bad:Bool} {n:Int}:jT xs bad n=true↔bad=false∧0≤n∧n≤xs.length:=by
 simp [jT,and_assoc]
theorem abD (p q:Nat) (xs:List Int) (n:Int) (w:World) (h:dQ w p q xs true) :
  Calls Tryd.prog 18 #[.pointer (some ⟨p,0,none⟩), .int .i64 n] w fun e w'=>e = .returned (.slice none 0 0)∧w=w':=by
 obtain ⟨⟨sa,c,h1,h2,h3,h4,h5⟩,h6,h7⟩:=h
 have c1:w.cell? ⟨p,1,none⟩=some (.bool true):=aF h1 1
 clear h1 h2 h3 h4 h5
 go_enter Tryd.func18, Tryd.ntmps18
 go_wp2
 go_step3
 go_wp2
 rw [Exit.noGoto_ret]
 go_ret
 exact ⟨rfl,rfl⟩
theorem craw_no (p q:Nat) (xs:List Int) (n:Int) (w:World) (h:dQ w p q xs false) (hn:n < 0∨(0≤n∧(xs.length:Int) < n)) :
  Calls Tryd.prog 18 #[.pointer (some ⟨p,0,none⟩), .int .i64 n] w fun e w'=>e = .returned (.slice none 0 0)∧dQ w' p q [] true∧Kept (· = p) w w'∧w'.heap.size=w.heap.size:=by
 obtain ⟨⟨sa,c,h1,h2,h3,h4,h5⟩,h6,h7⟩:=h
 have c0:w.cell? ⟨p,0,none⟩=some (.slice sa xs.length c):=aF h1 0
 have c1:w.cell? ⟨p,1,none⟩=some (.bool false):=aF h1 1
 have f0:=aC h1 0
 have f1:=aC h1 1
 have fin:∀ w',w'=(w.setCell ⟨p,0,none⟩ (.slice none 0 0)).setCell ⟨p,1,none⟩ (.bool true)→dQ w' p q [] true∧Kept (· = p) w w'∧w'.heap.size=w.heap.size:=by
  rintro w' rfl
  refine ⟨⟨⟨none,0,by rw [bq (bq h1 _)];simp,⟨rfl,fun i hi=>absurd hi (acO _)⟩,acF _,fun _=>rfl,fun a e=>(by cases e)⟩,h6,by simpa [World.setCell] using h7⟩,((Kept.refl _ _).at _ _).at _ _,by simp [World.setCell]⟩
 have FIN:=acD fin
 clear fin h1 h2 h3 h4 h5
 rcases hn with h0|⟨h0,h00⟩
 all_goals
  go_enter Tryd.func18, Tryd.ntmps18
  go_wp2
  refine EB 0 rfl ?_
  go_wp2
  go_step3
  refine ⟨rfl,?_⟩
  go_wp2
  (try rw [Exit.noGoto_ret])
  go_ret
  exact ⟨rfl,FIN.out _ rfl⟩
theorem craw_ok (p q:Nat) (xs:List Int) (n:Nat) (w:World) (h:dQ w p q xs false) (hn:n≤xs.length) (hl:xs.length≤1099511627776) :
  Calls Tryd.prog 18 #[.pointer (some ⟨p,0,none⟩), .int .i64 n] w fun e w'=>∃ v,e = .returned v∧aU w' w.heap.size v (xs.take n)∧dQ w' p q (xs.drop n) false∧Kept (· = p) w w':=by
 obtain ⟨⟨sa,c,h1,h2,h3,h4,h5⟩,h6,h7⟩:=h
 have c0:w.cell? ⟨p,0,none⟩=some (.slice sa xs.length c):=aF h1 0
 have c1:w.cell? ⟨p,1,none⟩=some (.bool false):=aF h1 1
 have hcl:=fun c'=>vS sa n c' (xs.take n) w (h2.take n hn) (by omega)
 cases sa with
 | none =>
  have hc:=h4 rfl
  have hx:xs=[]:=List.eq_nil_of_length_eq_zero (by omega)
  subst hx hc
  obtain rfl:n=0:=by simpa using hn
  have fin:∀ w1 v,aU w1 w.heap.size v []→Below w.heap.size w w1→w1.heap[p]? = some (.cells #[.slice none 0 0, .bool false] 81 (0,0))∧∀ w',w'=w1.setCell ⟨p,0,none⟩ (.slice none 0 0)→aU w' w.heap.size v []∧dQ w' p q [] false∧Kept (· = p) w w':=by
   intro w1 v ho hb
   have hp:=Below.blk hb h1 h7
   refine ⟨hp,?_⟩
   rintro w' rfl
   exact ⟨ho.kept ((Kept.refl (· = p) w1).at 0 _) (fun g e=>by have:=ho.lt g e;omega),⟨⟨none,0,by rw [bq hp];simp,⟨rfl,fun i hi=>absurd hi (acO _)⟩,acF _,fun _=>rfl,fun a e=>(by cases e)⟩,h6,by have:=hb.size;simp [World.setCell];omega⟩,(Kept.of_below hb).at 0 _⟩
  have FIN:=acD fin
  have nD:=acD hcl
  clear fin h1 h2 h3 h4 h5 hcl
  go_enter Tryd.func18, Tryd.ntmps18
  go_wp2
  go_step3
  go_wp2_with (go_at_call 39; refine (nD.out _).mono ?_;rintro e w1 ⟨v1,rfl,ho1,hb1⟩;obtain ⟨p1,p2⟩:=FIN.out w1 v1 ho1 hb1;have d0:w1.cell? ⟨p,0,none⟩=some (.slice none 0 0):=aF p1 0;have d1:=aC p1 0;have P2:=acD p2;clear p1 p2 ho1 hb1)
  (try rw [Exit.noGoto_ret])
  go_ret
  exact ⟨_,rfl,P2.out _ rfl⟩
 | some ad =>
  have hq:=h5 ad rfl
  have fin:∀ w1 v,aU w1 w.heap.size v (xs.take n)→Below w.heap.size w w1→w1.heap[p]? = some (.cells #[.slice (some ad) xs.length c, .bool false] 81 (0,0))∧∀ w' y m k,y=(if c=n then some ad else some (ad.add n))→m=xs.length - n→k=c - n→w'=w1.setCell ⟨p,0,none⟩ (.slice y m k)→aU w' w.heap.size v (xs.take n)∧dQ w' p q (xs.drop n) false∧Kept (· = p) w w':=by
   intro w1 v ho hb
   have hp:=Below.blk hb h1 h7
   refine ⟨hp,?_⟩
   rintro w' y m k rfl rfl rfl rfl
   have hk:Kept (· = p) w (w1.setCell ⟨p,0,none⟩ (.slice (if c=n then some ad else some (ad.add n)) (xs.length - n) (c - n))):=(Kept.of_below hb).at 0 _
   have hs1:=h2.kept hk (fun a e => .inr (by cases e;rw [hq];exact fun e=>h6 e.symm))
   have hs2:Src (w1.setCell ⟨p,0,none⟩ (.slice (if c=n then some ad else some (ad.add n)) (xs.length - n) (c - n))) (if c=n then some ad else some (ad.add n)) (xs.length - n) (xs.drop n):=by
    by_cases e:c=n
    ·have hz:xs.length - n=0:=by omega
     rw [hz,List.drop_eq_nil_of_le (by omega)]
     exact ⟨rfl,fun i hi=>absurd hi (acO _)⟩
    ·rw [if_neg e] at hs1 ⊢
     have:=hs1.part n (xs.length - n) (by omega)
     rwa [acJ (by simp)] at this
   refine ⟨ho.kept ((Kept.refl (· = p) w1).at 0 _) (fun g e=>by have:=ho.lt g e;omega),⟨⟨if c=n then some ad else some (ad.add n),c - n,by rw [bq hp];simp,by rw [acT];exact hs2,by rw [acT];omega,fun e=>(by split at e <;> cases e),fun a e=>?_⟩,h6,by have:=hb.size;simp [World.setCell];omega⟩,hk⟩
   split at e
   ·cases e;exact hq
   ·cases e;rw [block_add];exact hq
  have nD:=acD hcl
  have FIN:=acD fin
  have h8:¬ (n:Int) < 0:=by omega
  have h9:¬ (xs.length:Int) < (n:Int):=by omega
  have h10:¬ (c:Int) < (n:Int):=by omega
  clear fin h1 h2 h4 h5 hcl hq
  generalize xs.length=L at c0 FIN h9 h3 hn
  go_enter Tryd.func18, Tryd.ntmps18
  go_wp2
  go_step3
  go_wp2_with (go_at_call 39; refine (nD.out _).mono ?_;rintro e w1 ⟨v1,rfl,ho1,hb1⟩;obtain ⟨p1,p2⟩:=FIN.out w1 v1 ho1 hb1;have d0:w1.cell? ⟨p,0,none⟩=some (.slice (some ad) L c):=aF p1 0;have d1:=aC p1 0;have P2:=acD p2;clear p1 p2 ho1 hb1)
  all_goals
   (try rw [Exit.noGoto_ret])
   go_ret
   exact ⟨_,rfl,P2.out _ _ _ _ (by simp_all) rfl (by omega) rfl⟩
end Go.Proofs.YthdgbgleklkaiaaDoor
namespace Go.Proofs.YthdgbgleklkaiaaDoor.Ha
open Go.RowKit
theorem or_comm (k:IntKind) (a b:Int):bits .or k a b=bits .or k b a:=by
 unfold bits
 simp only
 rw [BitVec.or_comm]
theorem ror_2 (x:Int) (w:World):Calls Tryd.prog 29 #[.int .u32 x, .int .u64 2] w fun e w'=>e = .returned (.int .u32 (eu x 4 1073741824))∧w=w':=by
 go_enter Tryd.func29, Tryd.ntmps29
 go_wp2
 go_ret
 exact ⟨by unfold eu;rw [or_comm];rfl,rfl⟩
theorem ror_6 (x:Int) (w:World):Calls Tryd.prog 29 #[.int .u32 x, .int .u64 6] w fun e w'=>e = .returned (.int .u32 (eu x 64 67108864))∧w=w':=by
 go_enter Tryd.func29, Tryd.ntmps29
 go_wp2
 go_ret
 exact ⟨by unfold eu;rw [or_comm];rfl,rfl⟩
theorem ror_7 (x:Int) (w:World):Calls Tryd.prog 29 #[.int .u32 x, .int .u64 7] w fun e w'=>e = .returned (.int .u32 (eu x 128 33554432))∧w=w':=by
 go_enter Tryd.func29, Tryd.ntmps29
 go_wp2
 go_ret
 exact ⟨by unfold eu;rw [or_comm];rfl,rfl⟩
theorem ror_11 (x:Int) (w:World):Calls Tryd.prog 29 #[.int .u32 x, .int .u64 11] w fun e w'=>e = .returned (.int .u32 (eu x 2048 2097152))∧w=w':=by
 go_enter Tryd.func29, Tryd.ntmps29
 go_wp2
 go_ret
 exact ⟨by unfold eu;rw [or_comm];rfl,rfl⟩
theorem ror_13 (x:Int) (w:World):Calls Tryd.prog 29 #[.int .u32 x, .int .u64 13] w fun e w'=>e = .returned (.int .u32 (eu x 8192 524288))∧w=w':=by
 go_enter Tryd.func29, Tryd.ntmps29
 go_wp2
 go_ret
 exact ⟨by unfold eu;rw [or_comm];rfl,rfl⟩
theorem ror_17 (x:Int) (w:World):Calls Tryd.prog 29 #[.int .u32 x, .int .u64 17] w fun e w'=>e = .returned (.int .u32 (eu x 131072 32768))∧w=w':=by
 go_enter Tryd.func29, Tryd.ntmps29
 go_wp2
 go_ret
 exact ⟨by unfold eu;rw [or_comm];rfl,rfl⟩
theorem Kq (x:Int) (w:World):Calls Tryd.prog 29 #[.int .u32 x, .int .u64 18] w fun e w'=>e = .returned (.int .u32 (eu x 262144 16384))∧w=w':=by
 go_enter Tryd.func29, Tryd.ntmps29
 go_wp2
 go_ret
 exact ⟨by unfold eu;rw [or_comm];rfl,rfl⟩
theorem Ko (x:Int) (w:World):Calls Tryd.prog 29 #[.int .u32 x, .int .u64 19] w fun e w'=>e = .returned (.int .u32 (eu x 524288 8192))∧w=w':=by
 go_enter Tryd.func29, Tryd.ntmps29
 go_wp2
 go_ret
 exact ⟨by unfold eu;rw [or_comm];rfl,rfl⟩
theorem ror_22 (x:Int) (w:World):Calls Tryd.prog 29 #[.int .u32 x, .int .u64 22] w fun e w'=>e = .returned (.int .u32 (eu x 4194304 1024))∧w=w':=by
 go_enter Tryd.func29, Tryd.ntmps29
 go_wp2
 go_ret
 exact ⟨by unfold eu;rw [or_comm];rfl,rfl⟩
theorem ror_25 (x:Int) (w:World):Calls Tryd.prog 29 #[.int .u32 x, .int .u64 25] w fun e w'=>e = .returned (.int .u32 (eu x 33554432 128))∧w=w':=by
 go_enter Tryd.func29, Tryd.ntmps29
 go_wp2
 go_ret
 exact ⟨by unfold eu;rw [or_comm];rfl,rfl⟩
def zs' (n:Nat):Nat:=(2 * 64 - 8 - 1 - n % 64) % 64
def jA (n j:Nat):List Int:=(List.range j).map fun i=>if 8 - 1 - i < 8 then ((8 * n / 2 ^ (8 * (8 - 1 - i)) % 256:Nat):Int) else 0
theorem qO (n j:Nat):jA n (j+1)=jA n j ++ [if 8 - 1 - j < 8 then ((8 * n / 2 ^ (8 * (8 - 1 - j)) % 256:Nat):Int) else 0]:=by simp [jA,List.range_succ]
theorem Ad (n:Nat):(128 :: acE (zs' n) 0) ++ jA n 8=tail n:=by
 unfold tail jA zs'
 rw [acK]
 congr 1
theorem vG (k:Nat):(128:Int) :: acE (k+1) 0=(128 :: acE k 0) ++ [0]:=by rw [List.replicate_succ',List.cons_append]
theorem sG (x:Nat) (hx:x < 9223372036854775808):bits .and .i64 (x:Int) 255=((x % 256:Nat):Int):=by
 have e:x &&& 255=x % 256:=acU x 8
 have h1:(acG 64 (x:Int)).toNat=x:=by
  rw [acP,acQ];exact acR (by omega)
 have h2:(acG 64 (255:Int)).toNat=255:=by decide
 show IntKind.i64.wrap ((acG 64 (x:Int) &&& acG 64 (255:Int)).toNat:Int)=_
 rw [acV,h1,h2,e,IntKind.wrap_i64]
 omega
structure oV (w wr:World) (v:Value) (ys:List Int):Prop where
 own:aU wr w.heap.size v ys
 below:Below w.heap.size w wr
theorem oV.snoc {w wr w':World} {v v':Value} {ys:List Int} {x:Int} (h:oV w wr v ys) (o:Obj) (h1:aU w' w.heap.size v' (ys ++ [x])) (hg:(wr.alloc o).grownBy w' v.ownBlock):oV w w' v' (ys ++ [x]) :=
 ⟨h1,aQ (h.own.alloc o) hg (h.below.alloc h.below.size o) (acI h.below.size (by simp))⟩
theorem rU (sa:Option Addr) (n c:Nat) (xs:List Int) (w:World) (hs:Src w sa n xs) (hn:n≤70368744177664) :
  Calls Tryd.prog 28 #[.slice sa n c, .int .i64 64, .int .i64 8] w fun e w'=>∃ v,e = .returned v∧aU w' w.heap.size v (xs ++ tail n)∧Below w.heap.size w w':=by
 have hxl:=hs.len
 have HS:=acD hs
 have iK:=acD hxl
 clear hs hxl
 go_enter Tryd.func28, Tryd.ntmps28
 go_wp2_with (first|((with_reducible refine aS 12 ?_);refine aR rfl _ _ rfl w.heap.size (.slice none 0 0) [] rfl (aU.nil _ _) sa n _ xs rfl HS.out ?_ (acF _) ?_;(simp;omega);intro v1 w1 hown1 hgrow1 XF hat1;rw [List.nil_append] at hown1;have hb1:Below w.heap.size w w1:=(Below.refl _ w).grown hgrow1 (acF _) (fun k hk=>by cases hk);have NA:=acD hown1;clear hown1 hgrow1 XF hat1)|((with_reducible refine aS 14 ?_);refine aR rfl _ _ rfl w.heap.size v1 xs rfl (NA.out.alloc _) (some ⟨w1.heap.size,0,none⟩) 1 _ [128] rfl (jK _ _) ?_ (acI hb1.size (by simp)) ?_;(rw [iK.out];omega);intro v2 w2 hown2 hgrow2 Xz hat2;have yj:=acD (oV.snoc ⟨NA.out,hb1⟩ _ hown2 hgrow2);clear hown2 hgrow2 Xz hat2))
 obtain ⟨s2,c2,hv2, -⟩:=yj.out.own.form
 rw [acH,iK.out,acW] at hv2
 subst hv2
 go_loopg [7] (zs' n) (fun g m wr=>∃ (k l:Nat) (sv:Option Addr) (cv:Nat),g+k=zs' n∧l=n+1+k∧m = .slice sv l cv∧oV w wr (.slice sv l cv) (xs ++ (128 :: acE k 0)))
 case atStart=>exact ⟨0,n+1,s2,c2,by omega,rfl,rfl,yj.out⟩
 case round =>
  obtain ⟨k,l,sv,cv,hk,hl,rfl,hp⟩:=hrel
  obtain ⟨wo,rfl⟩:∃ wo:World,wo=wr:=⟨_,rfl⟩
  have hzs:zs' n=(2 * 64 - 8 - 1 - n % 64) % 64:=rfl
  have hmod:((l:Int) % 64)=(((n+1+k) % 64:Nat):Int):=by rw [hl];omega
  have hl1:l≤140737488355000:=by rw [hl];omega
  have HL:=acD hl
  by_cases hlt:k < zs' n
  ·have t1:(((l:Int) % 64) == 56)=false:=by rw [hmod];simp;omega
   have t2:(((l:Int) % 64) != 56)=true:=by rw [hmod];simp;omega
   have HP:=acD hp
   clear hzs hmod hp hl
   go_wp2_with ((with_reducible refine aS 25 ?_);refine aR rfl _ _ rfl w.heap.size (.slice sv l cv) (xs ++ (128 :: acE k 0)) rfl (HP.out.own.alloc _) (some ⟨wo.heap.size,0,none⟩) 1 _ [0] rfl (jK _ _) ?_ (acI HP.out.below.size (by simp)) ?_;(rw [acH,iK.out,acX,acL];have:=HL.out;omega);intro v5 w5 hown5 gG mV vK;have qQ:=oV.snoc HP.out _ hown5 gG;clear hown5 gG mV vK;rw [acK,← vG] at qQ;obtain ⟨s5,c5,hv5, -⟩:=qQ.own.form;rw [acH,iK.out,acX,acL,show n+(k+1+1)=l+1 by have:=HL.out;omega] at hv5;subst hv5;have Uk:=acD qQ;clear qQ)
   go_roundg (gk - 1)
   case measure=>omega
   case rel=>exact ⟨k+1,l+1,s5,c5,by omega,by have:=HL.out;omega,rfl,Uk.out⟩
  ·have t1:(((l:Int) % 64) == 56)=true:=by rw [hmod];simp;omega
   have t2:(((l:Int) % 64) != 56)=false:=by rw [hmod];simp;omega
   have ek:k=zs' n:=by omega
   obtain ⟨ys,hys⟩:∃ ys,ys=xs ++ (128 :: acE k 0):=⟨_,rfl⟩
   rw [← hys] at hp
   rw [ek] at hys
   have hyl:ys.length=l:=by rw [hys,hl,ek,acH,iK.out];simp;omega
   have HYS:=acD hys
   have HYL:=acD hyl
   have HP:=acD hp
   clear hzs hmod hp hl ek hys hyl
   go_wp2_with fail
   go_loopg [7,9] 8 (fun g m i wr=>∃ (j l':Nat) (sv:Option Addr) (cv:Nat),g+j=8∧l'=l+j∧i = .int .i64 (7 - (j:Int))∧m = .slice sv l' cv∧oV w wr (.slice sv l' cv) (ys ++ jA n j))
   case atStart=>exact ⟨0,l,sv,cv,rfl,rfl,rfl,rfl,by simpa [jA] using HP.out⟩
   case round =>
    obtain ⟨j,l',sv',cv',hj,hl',rfl,rfl,hp⟩:=hrel
    obtain ⟨wo2,rfl⟩:∃ wo2:World,wo2=wr:=⟨_,rfl⟩
    have hll:(jA n j).length=j:=by simp [jA]
    have Un:=acD hll
    have HL':=acD hl'
    have Cx:=acD hp
    clear hll hl' hp
    by_cases hlt2:j < 8
    ·by_cases h8:7 - j < 8
     ·have e1:(8 * (7 - (j:Int))).toNat=8 * (7 - j):=by omega
      have e2:0≤8 * (7 - (j:Int)):=by omega
      have e3:8 * (7 - (j:Int))≤56:=by omega
      have e4:(7:Int) - (j:Int) < 8:=by omega
      have e5:bits .and .i64 (8 * (n:Int) / 2 ^ (8 * (7 - j))) 255=((8 * n / 2 ^ (8 * (7 - j)) % 256:Nat):Int):=by
       rw [show (8 * (n:Int) / 2 ^ (8 * (7 - j)))=((8 * n / 2 ^ (8 * (7 - j)):Nat):Int) by rw [Int.natCast_ediv,Int.natCast_mul,Int.natCast_pow];rfl]
       exact sG _ (Nat.lt_of_le_of_lt (Nat.div_le_self _ _) (by omega))
      have e6:jA n (j+1)=jA n j ++ [((8 * n / 2 ^ (8 * (7 - j)) % 256:Nat):Int)]:=by rw [qO,if_pos h8]
      obtain ⟨x,hx⟩:∃ x,x=8 * n / 2 ^ (8 * (7 - j)) % 256:=⟨_,rfl⟩
      have hx1:x < 256:=by rw [hx];exact Nat.mod_lt _ (by omega)
      rw [← hx] at e5 e6
      have E6:=acD e6
      clear hx e6
      go_wp2_with ((with_reducible refine aS 47 ?_);refine aR rfl _ _ rfl w.heap.size (.slice sv' l' cv') (ys ++ jA n j) rfl (Cx.out.own.alloc _) (some ⟨wo2.heap.size,0,none⟩) 1 _ [(x:Int)] rfl (jK _ _) ?_ (acI Cx.out.below.size (by simp)) ?_;(rw [acH,HYL.out,Un.out];omega);intro v5 w5 hown5 gG mV vK;have qQ:=oV.snoc Cx.out _ hown5 gG;clear hown5 gG mV vK;rw [acK,← E6.out] at qQ;obtain ⟨s5,c5,hv5, -⟩:=qQ.own.form;rw [acH,HYL.out,E6.out,acH,Un.out,acW,show l+(j+1)=l'+1 by have:=HL'.out;omega] at hv5;subst hv5;have Uk:=acD qQ;clear qQ)
      go_roundg (gk - 1)
      case measure=>omega
      case rel=>exact ⟨j+1,l'+1,s5,c5,by omega,by have:=HL'.out;omega,by congr 1;omega,rfl,Uk.out⟩
     ·exfalso;omega
    ·have ej:j=8:=by omega
     have hfin:aU wo2 w.heap.size (.slice sv' l' cv') (xs ++ tail n):=by
      have:=Cx.out.own
      rwa [ej,HYS.out,acK,Ad] at this
     have hbe:=Cx.out.below
     have HF:=acD hfin
     clear ej hfin
     go_wp2_with fail
     go_ret
     exact ⟨_,rfl,HF.out,hbe⟩
end Go.Proofs.YthdgbgleklkaiaaDoor.Ha
namespace Go.Proofs.YthdgbgleklkaiaaDoor.Ha
open Go.RowKit
def eP (w:World):Prop:=∀ t,t < 64→w.cell? ⟨0, t,none⟩=some (.int .u32 (K.getD t 0))
structure dP (w wr:World) (lim:Nat) (sm:Option Addr) (lm cm:Nat) (pm hs:List Int):Prop where
 h:wr.heap[w.heap.size+1]? = some (.cells (arr .u32 hs) 62 (0,0))
 own:aU wr (w.heap.size+2) (.slice sm lm cm) pm
 res:wr.heap[w.heap.size]? = some (.cells (arr .u8 (acE 32 0)) 23 (0,0))
 below:Below w.heap.size w wr
 tab:eP wr
 lt3:w.heap.size+1 < lim
 ltO:∀ k,(Value.slice sm lm cm).ownBlock=some k→k < lim
 ltG : 0 < w.heap.size
 sz:lim≤wr.heap.size
 hl:hs.length=8
theorem dP.kept {T:Nat→Prop} {w wr w':World} {lim:Nat} {sm:Option Addr} {lm cm:Nat} {pm hs:List Int} (h:dP w wr lim sm lm cm pm hs) (k:Kept T wr w') (hT:∀ i,T i→lim≤i):dP w w' lim sm lm cm pm hs:=by
 have l3:=h.lt3
 have lg:=h.ltG
 refine ⟨k.blk h.h (fun e=>by have:=hT _ e;omega),h.own.kept k (fun g hg e=>by have:=hT _ e;have:=h.ltO g hg;omega),k.blk h.res (fun e=>by have:=hT _ e;omega),?_,?_,l3,h.ltO,lg,acI h.sz k.size,h.hl⟩
 ·exact h.below.trans (k.toBelow h.below.size (fun i e=>by have:=hT i e;omega))
 ·intro t ht
  exact k.l9 (h.tab t ht) (fun e=>by have:lim ≤ 0 := hT _ e;omega)
theorem dP.alloc {w wr:World} {lim:Nat} {sm:Option Addr} {lm cm:Nat} {pm hs:List Int} (h:dP w wr lim sm lm cm pm hs) (o:Obj):dP w (wr.alloc o) lim sm lm cm pm hs:=h.kept (T:=fun _=>False) ((Kept.refl _ _).alloc o) (fun _ e=>e.elim)
theorem dP.drewN {w wr:World} {lim:Nat} {sm:Option Addr} {lm cm:Nat} {pm hs:List Int} (h:dP w wr lim sm lm cm pm hs) (n:Nat):dP w (wr.drewN n) lim sm lm cm pm hs:=h.kept (T:=fun _=>False) ((Kept.refl _ _).drewN n) (fun _ e=>e.elim)
theorem dP.drew {w wr:World} {lim:Nat} {sm:Option Addr} {lm cm:Nat} {pm hs:List Int} (h:dP w wr lim sm lm cm pm hs):dP w wr.drew lim sm lm cm pm hs:=h.kept (T:=fun _=>False) ((Kept.refl _ _).drew) (fun _ e=>e.elim)
theorem dP.far {w wr:World} {lim:Nat} {sm:Option Addr} {lm cm:Nat} {pm hs:List Int} (h:dP w wr lim sm lm cm pm hs) (g i:Nat) (hg:lim≤g) (v:Value):dP w (wr.setCell ⟨g,i,none⟩ v) lim sm lm cm pm hs :=
 h.kept ((Kept.refl (fun x=>x=g) wr).at i v) (by rintro i rfl;exact hg)
theorem dP.seth {w wr:World} {lim:Nat} {sm:Option Addr} {lm cm:Nat} {pm hs:List Int} (h:dP w wr lim sm lm cm pm hs) (i:Nat) (x:Int):dP w (wr.setCell ⟨w.heap.size+1,i,none⟩ (.int .u32 x)) lim sm lm cm pm (hs.set i x):=by
 have k:Kept (fun x=>x=w.heap.size+1) wr (wr.setCell ⟨w.heap.size+1,i,none⟩ (.int .u32 x)):=(Kept.refl _ _).at _ _
 refine ⟨bI h.h i x,h.own.kept k (fun g hg e=>?_),k.blk h.res (by omega),h.below.setCell (p:=⟨w.heap.size+1,i,none⟩) (by simp) _,fun t ht=>?_,h.lt3,h.ltO,h.ltG,by rw [show (wr.setCell ⟨w.heap.size+1,i,none⟩ (.int .u32 x)).heap.size=wr.heap.size by simp [World.setCell]];exact h.sz,by rw [List.length_set];exact h.hl⟩
 ·have:=(h.own.lt g hg).1
  omega
 ·refine k.l9 (h.tab t ht) (fun e=>?_)
  have e : 0 = w.heap.size+1:=e
  have:=h.ltG
  omega
theorem eP.lt {w:World} (h:eP w) : 0 < w.heap.size:=World.block_lt_of_cell? _ _ (h 0 (by omega))
theorem Bb (w:World):(Instr.build 62 #[(0, .int .u32 1779033703),(1, .int .u32 3144134277),(2, .int .u32 1013904242),(3, .int .u32 2773480762),(4, .int .u32 1359893119),(5, .int .u32 2600822924),(6, .int .u32 528734635),(7, .int .u32 1541459225)]).run Tryd.prog w = .ok (.agg (arr .u32 H0)) w:=by kernel_rfl
theorem uR (y:Int):IntKind.u8.wrap (bits .and .u32 y 255)=y % 256:=by
 have h2:(acG 32 (255:Int)).toNat=255:=by decide
 have e:∀ x:Nat,x &&& 255=x % 256:=fun x=>acU x 8
 show IntKind.u8.wrap (IntKind.u32.wrap ((acG 32 y &&& acG 32 (255:Int)).toNat:Int))=_
 rw [acV,h2,e,BitVec.toNat_ofInt,IntKind.wrap_u8,IntKind.wrap_u32]
 omega
theorem dP.cell {w wr:World} {lim:Nat} {sm:Option Addr} {lm cm:Nat} {pm hs:List Int} (h:dP w wr lim sm lm cm pm hs) (i:Nat) (hi:i < pm.length):∃ a,sm=some a∧wr.cell? (a.add i)=some (.int .u8 (pm.getD i 0)):=by
 obtain ⟨sa,c,hv, -, -, hs, -⟩:=h.own.form
 cases hv
 exact hs.cell i hi
theorem wW {P:Program} {f:FuncId} {args:Array Value} {w:World} {v:Value} (h:Calls P f args w fun e w'=>e = .returned v∧w=w'):Calls P f args w fun e w''=>e = .returned v∧w''=w:=h.mono fun _ _ h=>⟨h.1,h.2.symm⟩
theorem Av (xs pm:List Int) (n Q:Nat) (hn:xs.length=n) (hp:pm=xs ++ tail n) (hl:pm.length=64 * Q):hash xs=digest (jq pm Q):=by
 subst hn hp
 unfold hash
 rw [Lc _ Q hl]
theorem zU (xs pm:List Int) (n:Nat) (hx:bytes xs) (hp:pm=xs ++ tail n):∀ x∈pm,0≤x∧x≤255:=by
 subst hp
 intro x h
 rcases List.mem_append.1 h with h|h
 ·exact hx x h
 ·exact rP n x h
theorem aaT (a b c d:Int):(a+b+c+d) % 4294967296=add (add (add d c) b) a:=by
 simp only [add,IntKind.wrap_u32]
 omega
theorem zX (k x y:Nat) (hy:y < 2 ^ k) (h:x * 2 ^ k+y < 4294967296):bits .or .u32 ((x * 2 ^ k:Nat):Int) (y:Int)=((x * 2 ^ k+y:Nat):Int):=by
 show IntKind.u32.wrap ((acG 32 ((x * 2 ^ k:Nat):Int) ||| acG 32 (y:Int)).toNat:Int)=_
 rw [acP,acP,BitVec.toNat_or,acQ,acQ,acR (by omega),acR (by omega),Nat.mul_comm x,← Nat.two_pow_add_eq_or_of_lt hy,IntKind.wrap_u32,Nat.mul_comm (2 ^ k) x]
 generalize x * 2 ^ k=z at h ⊢
 omega
theorem word4n (a b c d:Nat) (ha:a≤255) (hb:b≤255) (hc:c≤255) :
  bits .or .u32 (bits .or .u32 (bits .or .u32 (IntKind.u32.wrap ((a:Int) * 16777216)) (IntKind.u32.wrap ((b:Int) * 65536))) (IntKind.u32.wrap ((c:Int) * 256))) (d:Int) =
  bits .or .u32 (IntKind.u32.wrap (bits .or .u32 (IntKind.u32.wrap (bits .or .u32 (IntKind.u32.wrap (bits .or .u32 (IntKind.u32.wrap (0 * 256)) (a:Int) * 256)) (b:Int) * 256)) (c:Int) * 256)) (d:Int):=by
 have m1:((a * 2 ^ 24+b * 2 ^ 16:Nat):Int)=(((a * 2 ^ 8+b) * 2 ^ 16:Nat):Int):=congrArg Int.ofNat (by omega)
 have m2:(((a * 2 ^ 8+b) * 2 ^ 16+c * 2 ^ 8:Nat):Int)=((((a * 2 ^ 8+b) * 2 ^ 8+c) * 2 ^ 8:Nat):Int):=congrArg Int.ofNat (by omega)
 have r0:IntKind.u32.wrap (0 * 256)=((0 * 2 ^ 8:Nat):Int):=by rw [IntKind.wrap_u32];omega
 have r1:IntKind.u32.wrap (((0 * 2 ^ 8+a:Nat):Int) * 256)=((a * 2 ^ 8:Nat):Int):=by rw [IntKind.wrap_u32];omega
 have r2:IntKind.u32.wrap (((a * 2 ^ 8+b:Nat):Int) * 256)=(((a * 2 ^ 8+b) * 2 ^ 8:Nat):Int):=by rw [IntKind.wrap_u32];omega
 have r3:IntKind.u32.wrap ((((a * 2 ^ 8+b) * 2 ^ 8+c:Nat):Int) * 256)=((((a * 2 ^ 8+b) * 2 ^ 8+c) * 2 ^ 8:Nat):Int):=by rw [IntKind.wrap_u32];omega
 have l1:IntKind.u32.wrap ((a:Int) * 16777216)=((a * 2 ^ 24:Nat):Int):=by rw [IntKind.wrap_u32];omega
 have l2:IntKind.u32.wrap ((b:Int) * 65536)=((b * 2 ^ 16:Nat):Int):=by rw [IntKind.wrap_u32];omega
 have l3:IntKind.u32.wrap ((c:Int) * 256)=((c * 2 ^ 8:Nat):Int):=by rw [IntKind.wrap_u32];omega
 rw [l1,l2,l3,zX 24 a (b * 2 ^ 16) (by omega) (by omega),m1,zX 16 (a * 2 ^ 8+b) (c * 2 ^ 8) (by omega) (by omega),m2]
 rw [r0,zX 8 0 a (by omega) (by omega),r1,zX 8 a b (by omega) (by omega),r2,zX 8 (a * 2 ^ 8+b) c (by omega) (by omega),r3]
theorem wr24 (a:Int) (h:0≤a) (h2:a≤255):IntKind.u32.wrap (a * 16777216)=a * 16777216:=by rw [IntKind.wrap_u32];omega
theorem wr16 (a:Int) (h:0≤a) (h2:a≤255):IntKind.u32.wrap (a * 65536)=a * 65536:=by rw [IntKind.wrap_u32];omega
theorem wr8 (a:Int) (h:0≤a) (h2:a≤255):IntKind.u32.wrap (a * 256)=a * 256:=by rw [IntKind.wrap_u32];omega
theorem word4 (b:List Int) (o:Nat) (h:∀ j,0≤b.getD j 0∧b.getD j 0≤255) :
  bits .or .u32 (bits .or .u32 (bits .or .u32 (IntKind.u32.wrap (b.getD o 0 * 16777216)) (IntKind.u32.wrap (b.getD (o+1) 0 * 65536))) (IntKind.u32.wrap (b.getD (o+2) 0 * 256))) (b.getD (o+3) 0)=part b o 4:=by
 obtain ⟨x0,e0⟩:=acM (h o).1
 obtain ⟨x1,e1⟩:=acM (h (o+1)).1
 obtain ⟨x2,e2⟩:=acM (h (o+2)).1
 obtain ⟨x3,e3⟩:=acM (h (o+3)).1
 have l0:=(h o).2
 have l1:=(h (o+1)).2
 have l2:=(h (o+2)).2
 simp only [part,Nat.add_zero]
 rw [e0] at l0 ⊢
 rw [e1] at l1 ⊢
 rw [e2] at l2 ⊢
 rw [e3]
 exact word4n x0 x1 x2 x3 (by omega) (by omega) (by omega)
theorem VU (b:List Int) (j:Nat) (_hj:j < 16):pre b (4 * (j+1))=(pre b (4 * j)).set j (part b (4 * j) 4):=by
 apply List.ext_getElem
 ·simp [pre]
 ·intro i h1 h2
  rw [List.getElem_set]
  simp only [pre,List.getElem_map,List.getElem_range]
  by_cases e:j=i
  ·subst e
   rw [if_pos rfl,show min 4 (4 * (j+1) - 4 * j)=4 by omega]
  ·rw [if_neg e,show min 4 (4 * (j+1) - 4 * i)=min 4 (4 * j - 4 * i) by omega]
theorem jL (sa:Option Addr) (n c:Nat) (xs:List Int) (w:World) (hs:Src w sa n xs) (hx:bytes xs) (hn:n≤70368744177664) (hk:eP w) :
  Calls Tryd.prog 14 #[.slice sa n c] w fun e w'=>e = .returned (.agg (arr .u8 (hash xs)))∧Below w.heap.size w w':=by
 have hg:=hk.lt
 have hxl:=hs.len
 have z1:(Tryd.prog.info? 62).map (·.size)=some (arr .u32 H0).size:=mP
 have z2:(arr .u32 H0).size=(arr .u32 (acE 8 0)).size:=rfl
 have HS:=acD hs
 have HX:=acD hx
 have HK:=acD hk
 have HG:=acD hg
 have iK:=acD hxl
 have Z1:=acD z1
 have Z2:=acD z2
 have B1:=acD (aG w (.cells (arr .u8 (acE 32 0)) 23))
 have B2:=acD (aG (w.alloc (.cells (arr .u8 (acE 32 0)) 23)) (.cells (arr .u32 (acE 8 0)) 62))
 have eA:(w.alloc (.cells (arr .u8 (acE 32 0)) 23)).heap.size=w.heap.size+1:=by simp
 rw [eA] at B2
 have EA:=acD eA
 clear hs hx hk hg hxl z1 z2 eA
 go_enter Tryd.func14, Tryd.ntmps14
 go_wp2_with (first|((with_reducible refine aS 2 ?_);refine aj rfl 23 rfl _ (nG _) ?_)|((with_reducible refine aS 21 ?_);refine wpList_build rfl 62 _ rfl #[(0, .int .u32 1779033703),(1, .int .u32 3144134277),(2, .int .u32 1013904242),(3, .int .u32 2773480762),(4, .int .u32 1359893119),(5, .int .u32 2600822924),(6, .int .u32 528734635),(7, .int .u32 1541459225)] rfl _ (Bb _) ?_)|((with_reducible refine aS 3 ?_);refine aj rfl 62 rfl _ (Dc _) ?_;rw [EA.out])|((with_reducible show wpList _ _ _ (Oper.mk none _ _ _ _ _ :: _) _ _);refine ah rfl 62 _ _ rfl (w.heap.size+1) _ _ 62 B2.out rfl rfl Z2.out Z1.out (av _ _) ?_;intro w1 hb1 hk1 hz1;have hw1:=(((Below.refl _ w).alloc (acF _) _).alloc (by simp) _).trans (hk1.toBelow (B:=w.heap.size) (by simp;omega) (by rintro i rfl;omega));have HW1:=acD hw1;have HB1:=acD hb1;have uV:=acD hk1;have HZ1:=acD hz1;clear hb1 hk1 hz1 hw1)|(go_at_call 28; refine (rU sa n c xs w1 (HS.out.below HW1.out) hn).mono ?_;rintro e w2 ⟨v,rfl,hown2,Yl⟩;have Br:=acD hown2;have BF:=acD Yl;clear hown2 Yl))
 have hz1:w1.heap.size=w.heap.size+2:=by rw [HZ1.out];simp
 obtain ⟨pm,hpm⟩:∃ pm,pm=xs ++ tail n:=⟨_,rfl⟩
 obtain ⟨lim,hlim⟩:∃ lim,lim=w2.heap.size:=⟨_,rfl⟩
 obtain ⟨Q,hQ⟩:=zx n
 have hpl:pm.length=64 * Q:=by rw [hpm,acH,iK.out];exact hQ
 have ho2:=Br.out
 rw [← hpm] at ho2
 obtain ⟨sm,cm,hvm, -, -, -, -⟩:=ho2.form
 rw [hpl] at hvm
 subst hvm
 have hb2s:=BF.out.size
 have hbw2:Below w.heap.size w w2:=HW1.out.trans (BF.out.mono (by omega))
 have hR0:dP w w2 lim sm (64 * Q) cm pm (jq pm 0):=by
  have hg:=HG.out
  refine ⟨?_,ho2.mono (by omega),Below.blk BF.out (uV.out.blk (aY B1.out _) (by omega)) (by omega),hbw2,fun t ht=>dI hbw2 (HK.out t ht),by omega,fun k hk=>by rw [hlim];exact (ho2.lt k hk).2,hg,by omega,Lb _ _⟩
  rw [Fv]
  exact Below.blk BF.out HB1.out (by omega)
 have hnl:(64 * Q)≤70368744178000:=by
  have hq:n+(tail n).length=(64 * Q):=hQ
  have:(tail n).length≤256:=by simp [tail];omega
  omega
 have Yk:=zU xs pm n HX.out hpm
 have HEND:=acD (Av xs pm n Q iK.out hpm hpl)
 have Em:=acD hpl
 have FY:=acD hR0
 have HBYT:=acD Yk
 clear hz1 hpm hlim hQ hpl ho2 hb2s hbw2 hR0 Yk Br BF HW1 HB1 uV HZ1 B1 B2 EA
 go_wp2_with fail
 go_loopw [5] (fun i wr=>∃ q:Nat,q≤Q∧i = .int .i64 (64 * (q:Int))∧dP w wr lim sm (64 * Q) cm pm (jq pm q)) (fun i _=>(64 * Q) - (intOf i).toNat)
 case atStart=>exact ⟨0,by omega,rfl,FY.out⟩
 clear FY
 case round =>
 obtain ⟨q,hq,rfl,hR⟩:=hrel
 obtain ⟨wo,rfl⟩:∃ wo:World,wo=wr:=⟨_,rfl⟩
 by_cases hlt:q < Q
 ·obtain ⟨hv0,hh⟩:∃ hv0,hv0=jq pm q:=⟨_,rfl⟩
  obtain ⟨bl,hbl⟩:∃ bl,bl=eU pm q:=⟨_,rfl⟩
  have hsu:jq pm (q+1)=comp hv0 bl:=by rw [hh,hbl];exact Fw pm q (by rw [Em.out];omega)
  have hby:∀ j,0≤bl.getD j 0∧bl.getD j 0≤255:=by
   intro j
   refine byte_at (fun x hx=>HBYT.out x ?_) j
   rw [hbl] at hx
   exact List.mem_of_mem_drop (List.mem_of_mem_take hx)
  have hR1:=hR
  rw [← hh] at hR1
  have xI:=acD hR.sz
  have HR2:=acD (hR1.alloc (.cells (arr .u32 (acE 64 0)) 64))
  have hb2:=aG wo (.cells (arr .u32 (acE 64 0)) 64)
  rw [← jU bl] at hb2
  have HB2:=acD hb2
  have HSU:=acD hsu
  have HBY:=acD hby
  have q8:=acD hbl.symm
  have HHL:=acD hR1.hl
  clear hR hR1 hb2 hsu hby hbl hh
  go_wp2_with ((with_reducible refine aS 6 ?_);refine aj rfl 64 rfl _ (yY _) ?_)
  rw [jU bl] at HB2
  rw [← jU bl] at HB2
  go_loopw [7] (fun i wr=>∃ i6:Nat,i6≤16∧i = .int .i64 i6∧dP w wr lim sm (64 * Q) cm pm hv0∧wr.heap[wo.heap.size]? = some (.cells (arr .u32 (pre bl (4 * i6))) 64 (0,0))) (fun i _=>16 - (intOf i).toNat)
  case atStart=>exact ⟨0,by omega,rfl,HR2.out,HB2.out⟩
  case round =>
   obtain ⟨i6,hi6,rfl,hR,hb⟩:=hrel
   by_cases hlt6:i6 < 16
   ·obtain ⟨ad,rfl,c0⟩:=hR.cell (64 * q+(4 * i6)) (by rw [Em.out];omega)
    obtain ⟨ad1,ea1,c1⟩:=hR.cell (64 * q+(4 * i6+1)) (by rw [Em.out];omega)
    obtain ⟨ad2,ea2,c2⟩:=hR.cell (64 * q+(4 * i6+2)) (by rw [Em.out];omega)
    obtain ⟨ad3,ea3,c3⟩:=hR.cell (64 * q+(4 * i6+3)) (by rw [Em.out];omega)
    cases ea1
    cases ea2
    cases ea3
    rw [← FP pm q _ (by omega),q8.out] at c0 c1 c2 c3
    have y0:=aI hb i6 (by rw [yC];omega)
    have yf:=aC hb i6
    have g1:=bI hb i6 (part bl (4 * i6) 4)
    rw [← VU bl i6 hlt6] at g1
    have G1:Hid (∀ v,v=part bl (4 * i6) 4→(wr.setCell ⟨wo.heap.size,i6,none⟩ (.int .u32 v)).heap[wo.heap.size]? = some (.cells (arr .u32 (pre bl (4 * (i6+1)))) 64 (0,0))):=acD (by rintro v rfl;exact g1)
    rw [← word4 bl (4 * i6) HBY.out] at G1
    obtain ⟨b00,b01⟩:=HBY.out (4 * i6)
    obtain ⟨b10,b11⟩:=HBY.out (4 * i6+1)
    obtain ⟨b20,b21⟩:=HBY.out (4 * i6+2)
    obtain ⟨b30,b31⟩:=HBY.out (4 * i6+3)
    have HR4:=acD (fun v=>hR.far wo.heap.size i6 xI.out v)
    clear hR hb g1
    generalize (pre bl (4 * i6)).getD i6 0=y at y0
    generalize bl.getD (4 * i6) 0=p0 at c0 b00 b01 G1
    generalize bl.getD (4 * i6+1) 0=p1 at c1 b10 b11 G1
    generalize bl.getD (4 * i6+2) 0=p2 at c2 b20 b21 G1
    generalize bl.getD (4 * i6+3) 0=p3 at c3 b30 b31 G1
    have j1:IntKind.i64.wrap (4 * (i6:Int))=4 * (i6:Int):=IntWalk.i64_in _ (by omega)
    have j2:IntKind.i64.wrap (64 * (q:Int)+4 * (i6:Int))=64 * (q:Int)+4 * (i6:Int):=IntWalk.i64_in _ (by omega)
    have j3:IntKind.i64.wrap (64 * (q:Int)+4 * (i6:Int)+1)=64 * (q:Int)+4 * (i6:Int)+1:=IntWalk.i64_in _ (by omega)
    have j4:IntKind.i64.wrap (64 * (q:Int)+4 * (i6:Int)+2)=64 * (q:Int)+4 * (i6:Int)+2:=IntWalk.i64_in _ (by omega)
    have j5:IntKind.i64.wrap (64 * (q:Int)+4 * (i6:Int)+3)=64 * (q:Int)+4 * (i6:Int)+3:=IntWalk.i64_in _ (by omega)
    have n0:(64 * (q:Int)+4 * (i6:Int)).toNat=64 * q+4 * i6:=by omega
    have n1:(64 * (q:Int)+4 * (i6:Int)+1).toNat=64 * q+(4 * i6+1):=by omega
    have n2:(64 * (q:Int)+4 * (i6:Int)+2).toNat=64 * q+(4 * i6+2):=by omega
    have n3:(64 * (q:Int)+4 * (i6:Int)+3).toNat=64 * q+(4 * i6+3):=by omega
    have n4:0≤64 * (q:Int)+4 * (i6:Int):=by omega
    have n6:(i6:Int) < 64:=by omega
    have n4b:0≤64 * (q:Int)+4 * (i6:Int)+1:=by omega
    have n4c:0≤64 * (q:Int)+4 * (i6:Int)+2:=by omega
    have n4d:0≤64 * (q:Int)+4 * (i6:Int)+3:=by omega
    have n5:64 * (q:Int)+4 * (i6:Int) < 64 * (Q:Int):=by omega
    have n5b:64 * (q:Int)+4 * (i6:Int)+1 < 64 * (Q:Int):=by omega
    have n5c:64 * (q:Int)+4 * (i6:Int)+2 < 64 * (Q:Int):=by omega
    have n5d:64 * (q:Int)+4 * (i6:Int)+3 < 64 * (Q:Int):=by omega
    go_wp2_with fail
    refine wp_region_still_tail 31 (by kernel_rfl) (by kernel_rfl) ?_
    simp only [adA,adB,adC,acN]
    repeat still_step
    refine wpStill_nil ?_
    change wpList _ _ _ _ _ wr.drew
    go_wp2_with fail
    clear j1 j2 j3 j4 j5 n0 n1 n2 n3 n4 n6 n4b n4c n4d n5 n5b n5c n5d
    go_roundw
    case rel=>exact ⟨i6+1,by omega,by go_num,(HR4.out _).drew,G1.out _ (by rw [wr24 p0 b00 b01,wr16 p1 b10 b11,wr8 p2 b20 b21])⟩
    case measure=>simp [intOf];omega
   ·rw [show i6=16 by omega,show 4 * 16=64 from rfl] at hb
    have Bl:=acD hR
    have hb5:wr.heap[wo.heap.size]? = some (.cells (arr .u32 (sched bl 0)) 64 (0,0)):=hb
    have fM:=acD hb5
    clear hR hb hb5
    go_wp2_with fail
    go_loopw [9] (fun i wr=>∃ t:Nat,16≤t∧t≤64∧i = .int .i64 t∧dP w wr lim sm (64 * Q) cm pm hv0∧wr.heap[wo.heap.size]? = some (.cells (arr .u32 (sched bl (t - 16))) 64 (0,0))) (fun i _=>64 - (intOf i).toNat)
    case atStart=>exact ⟨16,by omega,by omega,rfl,Bl.out,fM.out⟩
    clear Bl fM
    case round =>
    obtain ⟨t,h16,ht,rfl,hR,g1⟩:=hrel
    by_cases hltt:t < 64
    ·have hsl:=gU bl (t - 16)
     have x2:=aI g1 (t - 2) (by omega)
     have x7:=aI g1 (t - 7) (by omega)
     have x15:=aI g1 (t - 15) (by omega)
     have x16:=aI g1 (t - 16) (by omega)
     have xt:=aI g1 t (by omega)
     have xf:=aC g1 t
     have hnx:sched bl (t - 16+1)=(sched bl (t - 16)).set t (next (sched bl (t - 16)) t):=by
      have:=jG bl (t - 16)
      rwa [show 16+(t - 16)=t by omega] at this
     have g1':=bI g1 t (next (sched bl (t - 16)) t)
     rw [← hnx,show t - 16+1=t+1 - 16 by omega] at g1'
     have G1:Hid (∀ v,v=next (sched bl (t - 16)) t→(wr.setCell ⟨wo.heap.size,t,none⟩ (.int .u32 v)).heap[wo.heap.size]? = some (.cells (arr .u32 (sched bl (t+1 - 16))) 64 (0,0))):=acD (by rintro v rfl;exact g1')
     have FX:=acD (fun v=>hR.far wo.heap.size t xI.out v)
     clear g1 g1' hR hsl hnx
     unfold next at G1
     generalize (sched bl (t - 16)).getD (t - 2) 0=y2 at x2 G1
     generalize (sched bl (t - 16)).getD (t - 7) 0=y7 at x7 G1
     generalize (sched bl (t - 16)).getD (t - 15) 0=y15 at x15 G1
     generalize (sched bl (t - 16)).getD (t - 16) 0=y16 at x16 G1
     have i15:IntKind.i64.wrap ((t:Int) - 15)=(t:Int) - 15:=IntWalk.i64_in _ (by omega)
     have i2:IntKind.i64.wrap ((t:Int) - 2)=(t:Int) - 2:=IntWalk.i64_in _ (by omega)
     have i7:IntKind.i64.wrap ((t:Int) - 7)=(t:Int) - 7:=IntWalk.i64_in _ (by omega)
     have i16:IntKind.i64.wrap ((t:Int) - 16)=(t:Int) - 16:=IntWalk.i64_in _ (by omega)
     have n15:((t:Int) - 15).toNat=t - 15:=by omega
     have n2:((t:Int) - 2).toNat=t - 2:=by omega
     have n7:((t:Int) - 7).toNat=t - 7:=by omega
     have n16:((t:Int) - 16).toNat=t - 16:=by omega
     have p16:16≤(t:Int):=by omega
     have p7:7≤(t:Int):=by omega
     have q16:(t:Int) - 16 < 64:=by omega
     have q7:(t:Int) - 7 < 64:=by omega
     have qt:(t:Int) < 64:=by omega
     go_wp2_with fail
     refine wp_region_still_tail 29 (by kernel_rfl) (by kernel_rfl) ?_
     simp only [adA,adB,adC,acN]
     repeat still_step
     (refine wpStill_step (fun K hK=>?_);go_simp;refine Exists.intro _ (And.intro (wW (ror_7 _ _)) ?_);refine hK _ ?_;clear hK K)
     repeat still_step
     (refine wpStill_step (fun K hK=>?_);go_simp;refine Exists.intro _ (And.intro (wW (Kq _ _)) ?_);refine hK _ ?_;clear hK K)
     repeat still_step
     (refine wpStill_step (fun K hK=>?_);go_simp;refine Exists.intro _ (And.intro (wW (ror_17 _ _)) ?_);refine hK _ ?_;clear hK K)
     repeat still_step
     (refine wpStill_step (fun K hK=>?_);go_simp;refine Exists.intro _ (And.intro (wW (Ko _ _)) ?_);refine hK _ ?_;clear hK K)
     repeat still_step
     refine wpStill_nil ?_
     change wpList _ _ _ _ _ wr.drew
     go_wp2_with fail
     clear i15 i2 i7 i16 n15 n2 n7 n16 p16 p7 q16 q7 qt
     go_roundw
     case rel=>exact ⟨t+1,by omega,by omega,by go_num,(FX.out _).drew,G1.out _ (aaT y16 (s0 y15) y7 (s1 y2))⟩
     case measure=>simp [intOf];omega
    ·obtain rfl:t=64:=by omega
     obtain ⟨ws,hws⟩:∃ ws,ws=sched bl (64 - 16):=⟨_,rfl⟩
     rw [← hws] at g1
     have hwl:ws.length=64:=by rw [hws];exact gU _ _
     have hp8:((arr .u32 hv0).toList.drop 0).take hv0.length=hv0.map (Value.int .u32):=by rw [acN,bN,acJ (by simp)]
     have qP:(Tryd.prog.info? 62).map (·.size)=some hv0.length:=by rw [hR.hl];exact mP
     have z3:(Tryd.prog.info? 62).map (·.size)=some (arr .u32 hv0).size:=by rw [aD,hR.hl];exact mP
     have z4:(arr .u32 hv0).size=(arr .u32 (acE 8 0)).size:=by rw [aD,aD,hR.hl,acL]
     have HWS:=acD hws
     have rE:=acD hwl
     have HP8:=acD hp8
     have HZ8:=acD qP
     have Z3:=acD z3
     have Z4:=acD z4
     have qH:=acD (aY g1 (.cells (arr .u32 (acE 8 0)) 62))
     have kK:=acD (aO g1)
     have HH:=acD hR.h
     have xK:=acD (hR.alloc (.cells (arr .u32 (acE 8 0)) 62))
     have HA8:=acD (aG wr (.cells (arr .u32 (acE 8 0)) 62))
     have Ej:=acD hR.sz
     obtain ⟨wp,rfl⟩:∃ wp:World,wp=wr:=⟨_,rfl⟩
     clear hws hwl hp8 qP z3 z4 g1 hR
     go_wp2_with (first|((with_reducible refine aS 110 ?_);refine ak rfl 62 _ rfl (w.heap.size+1) 0 _ 62 (0,0) _ HH.out rfl .u32 hv0 HP8.out Tryd.underlying62 rfl HZ8.out ?_)|((with_reducible refine aS 12 ?_);refine aj rfl 62 rfl _ (Dc _) ?_)|((with_reducible show wpList _ _ _ (Oper.mk none _ _ _ _ _ :: _) _ _);refine ah rfl 62 _ _ rfl wp.heap.size _ _ 62 HA8.out rfl rfl Z4.out Z3.out (av _ _) ?_;intro w5 hb5 hk5 SK;have uU:=acD (xK.out.kept hk5 (by rintro i rfl;exact Ej.out));have fC:=acD hb5;have QY:=acD (hk5.blk qH.out (by have:=kK.out;omega));clear hb5 hk5 SK))
     go_loopw [13] (fun i wq=>∃ j:Nat,j≤64∧i = .int .i64 j∧dP w wq lim sm (64 * Q) cm pm hv0∧wq.heap[wo.heap.size]? = some (.cells (arr .u32 ws) 64 (0,0))∧wq.heap[wp.heap.size]? = some (.cells (arr .u32 (rounds ws hv0 j)) 62 (0,0))) (fun i _=>64 - (intOf i).toNat)
     case atStart=>exact ⟨0,acS _,rfl,uU.out,QY.out,fC.out⟩
     clear xK uU fC QY HA8 qH HH
     case round =>
     obtain ⟨j,hj,rfl,hR,hw,hv⟩:=hrel
     by_cases hltj:j < 64
     ·have hvl:=gL ws hv0 HHL.out j
      have x0:=aI hv 0 (by omega)
      have x1:=aI hv 1 (by omega)
      have x2:=aI hv 2 (by omega)
      have x3:=aI hv 3 (by omega)
      have x4:=aI hv 4 (by omega)
      have x5:=aI hv 5 (by omega)
      have x6:=aI hv 6 (by omega)
      have x7:=aI hv 7 (by omega)
      have xk:=hR.tab j hltj
      have xw:=aI hw j (by rw [rE.out];omega)
      have HN:Hid (∀ cs,cs=arr .u32 (RX (K.getD j 0) (ws.getD j 0) (rounds ws hv0 j))→cs=arr .u32 (rounds ws hv0 (j+1))):=acD (by rintro cs rfl;rw [rounds_succ])
      have HV8:=acD hvl
      have HB2:=acD hw
      have HB3:=acD hv
      have FW:=acD hR
      clear hw hv hR hvl
      unfold RX tx ty at HN
      generalize (rounds ws hv0 j).getD 0 0=v0 at x0 HN
      generalize (rounds ws hv0 j).getD 1 0=v1 at x1 HN
      generalize (rounds ws hv0 j).getD 2 0=v2 at x2 HN
      generalize (rounds ws hv0 j).getD 3 0=v3 at x3 HN
      generalize (rounds ws hv0 j).getD 4 0=v4 at x4 HN
      generalize (rounds ws hv0 j).getD 5 0=v5 at x5 HN
      generalize (rounds ws hv0 j).getD 6 0=v6 at x6 HN
      generalize (rounds ws hv0 j).getD 7 0=v7 at x7 HN
      generalize K.getD j 0=kt at xk HN
      generalize ws.getD j 0=wt at xw HN
      go_wp2_with fail
      refine wp_region_still_lit (by kernel_rfl) (by kernel_rfl) ?_
      repeat still_step
      (refine wpStill_step (fun K hK=>?_);go_simp;refine Exists.intro _ (And.intro (wW (ror_6 _ _)) ?_);refine hK _ ?_;clear hK K)
      repeat still_step
      (refine wpStill_step (fun K hK=>?_);go_simp;refine Exists.intro _ (And.intro (wW (ror_11 _ _)) ?_);refine hK _ ?_;clear hK K)
      repeat still_step
      (refine wpStill_step (fun K hK=>?_);go_simp;refine Exists.intro _ (And.intro (wW (ror_25 _ _)) ?_);refine hK _ ?_;clear hK K)
      repeat still_step
      refine wpStill_nil ?_
      go_wp2_with fail
      have y1:wr.drew.cell? ⟨wp.heap.size,1,none⟩=some (.int .u32 v1):=x1
      have y2:wr.drew.cell? ⟨wp.heap.size,2,none⟩=some (.int .u32 v2):=x2
      have y3:wr.drew.cell? ⟨wp.heap.size,3,none⟩=some (.int .u32 v3):=x3
      have y5:wr.drew.cell? ⟨wp.heap.size,5,none⟩=some (.int .u32 v5):=x5
      have y6:wr.drew.cell? ⟨wp.heap.size,6,none⟩=some (.int .u32 v6):=x6
      have Og:Hid (wr.drew.heap[wo.heap.size]? = some (.cells (arr .u32 ws) 64 (0,0))):=HB2
      have HC3:Hid (wr.drew.heap[wp.heap.size]? = some (.cells (arr .u32 (rounds ws hv0 j)) 62 (0,0))):=HB3
      have qF:=acD FW.out.drew
      clear x0 x1 x2 x3 x4 x5 x6 x7 xk xw HB2 HB3 FW
      generalize wr.drew=w6 at y1 y2 y3 y5 y6 Og HC3 qF ⊢
      refine wp_region_still_lit (by kernel_rfl) (by kernel_rfl) ?_
      repeat still_step
      (refine wpStill_step (fun K hK=>?_);go_simp;refine Exists.intro _ (And.intro (wW (ror_2 _ _)) ?_);refine hK _ ?_;clear hK K)
      repeat still_step
      (refine wpStill_step (fun K hK=>?_);go_simp;refine Exists.intro _ (And.intro (wW (ror_13 _ _)) ?_);refine hK _ ?_;clear hK K)
      repeat still_step
      (refine wpStill_step (fun K hK=>?_);go_simp;refine Exists.intro _ (And.intro (wW (ror_22 _ _)) ?_);refine hK _ ?_;clear hK K)
      repeat still_step
      refine wpStill_nil ?_
      go_wp2_with ((with_reducible show wpList _ _ _ (Oper.mk none _ _ _ _ _ :: _) _ _);refine iP rfl 62 _ _ rfl wp.heap.size .u32 _ 62 HC3.out rfl _ _ _ _ _ _ _ _ rfl HV8.out mP ?_;intro w4 hb4 hk4 hz4;have HB4:=acD hb4;have tK:=acD hk4;clear hb4 hk4 hz4)
      go_wp2_with fail
      go_roundw
      case rel =>
       refine ⟨j+1,by omega,by go_num,qF.out.drew.kept tK.out (by rintro i rfl;exact Ej.out),tK.out.blk Og.out (by have:=kK.out;omega),?_⟩
       rw [HB4.out]
       exact congrArg (fun c=>some (Obj.cells c 62 (0,0))) (HN.out _ (congrArg (arr .u32) (pO (aaU v7 (e1 v4) (ch v4 v5 v6) kt wt (e0 v0) (maj v0 v1 v2)) rfl rfl rfl (aaV v3 v7 (e1 v4) (ch v4 v5 v6) kt wt) rfl rfl rfl)))
      case measure=>simp [intOf];omega
     ·obtain rfl:j=64:=by omega
      obtain ⟨vv,FE⟩:∃ vv,vv=rounds ws hv0 64:=⟨_,rfl⟩
      rw [← FE] at hv
      have hcomp:sums hv0 vv 8=comp hv0 bl:=by rw [FE,HWS.out];rfl
      have hvl:vv.length=8:=by rw [FE];exact gL ws hv0 HHL.out _
      have hne:w.heap.size+1≠wp.heap.size:=by have:=hR.lt3;have:=Ej.out;omega
      have BD:=acD hcomp
      have Ct:=acD hvl
      have HNE:=acD hne
      have HVX:=acD hv
      have HRX:=acD hR
      clear FE hcomp hvl hne hv hR hw
      go_wp2_with fail
      go_loopw [18] (fun i wq=>∃ j8:Nat,j8≤8∧i = .int .i64 j8∧dP w wq lim sm (64 * Q) cm pm (sums hv0 vv j8)∧wq.heap[wp.heap.size]? = some (.cells (arr .u32 vv) 62 (0,0))) (fun i _=>8 - (intOf i).toNat)
      case atStart=>exact ⟨0,acS _,rfl,by rw [mM];exact HRX.out,HVX.out⟩
      clear HRX HVX
      case round =>
      obtain ⟨j8,hj8,rfl,hR,hv⟩:=hrel
      by_cases CR:j8 < 8
      ·have y0:=aI hR.h j8 (by rw [hR.hl];exact CR)
       rw [pF hv0 vv j8 j8 (by rw [HHL.out];exact CR) (acF _)] at y0
       have y1:=aI hv j8 (by rw [Ct.out];exact CR)
       have y2:=aC hR.h j8
       have S1:Hid (∀ x,x=add (hv0.getD j8 0) (vv.getD j8 0)→dP w (wr.setCell ⟨w.heap.size+1,j8,none⟩ (.int .u32 x)) lim sm (64 * Q) cm pm (sums hv0 vv (j8+1))):=acD (by rintro x rfl;rw [mO hv0 vv j8 (by rw [HHL.out];exact CR)];exact hR.seth j8 _)
       have HG:=acD hv
       clear hv hR
       generalize hv0.getD j8 0=hj0 at y0 S1
       generalize vv.getD j8 0=vj at y1 S1
       go_wp2_with fail
       go_region
       go_wp2_with fail
       go_roundw
       case rel=>exact ⟨j8+1,by omega,by go_num,(S1.out _ (Ja _ _)).drew,aB HG.out _ (Ne.symm HNE.out)⟩
       case measure=>simp [intOf];omega
      ·have e8:j8=8:=by omega
       rw [e8,BD.out,← HSU.out] at hR
       have Cw:=acD hR
       clear e8 hv hR
       go_wp2_with fail
       go_roundw
       case rel=>exact ⟨q+1,by omega,by go_num,Cw.out⟩
       case measure=>simp [intOf];omega
 ·obtain rfl:q=Q:=by omega
  have hend:=HEND.out
  obtain ⟨hf,ehf⟩:∃ hf,hf=jq pm q:=⟨_,rfl⟩
  rw [← ehf] at hR hend
  have hdl:(digest hf).length=32:=by simp [digest]
  have hfl:=hR.hl
  have dF:(wo.alloc (.cells (arr .u8 (acE 32 0)) 23)).heap[wo.heap.size]? = some (.cells (arr .u8 ((digest hf).take 0 ++ acE (32 - 0) 0)) 23 (0,0)):=aG _ _
  have xI:=acD hR.sz
  have uU:=acD (hR.alloc (.cells (arr .u8 (acE 32 0)) 23))
  have kW:=acD dF
  have HE2:=acD hend
  have yV:=acD hdl
  have HFL:=acD hfl
  clear hR hend ehf hdl hfl dF HEND HBYT
  go_wp2_with ((with_reducible refine aS 19 ?_);refine aj rfl 23 rfl _ (nG _) ?_)
  go_loopw [20] (fun i wr=>∃ i9:Nat,i9≤32∧i = .int .i64 i9∧wr.heap[wo.heap.size]? = some (.cells (arr .u8 ((digest hf).take i9 ++ acE (32 - i9) 0)) 23 (0,0))∧dP w wr lim sm (64 * q) cm pm hf) (fun i _=>32 - (intOf i).toNat)
  case atStart=>exact ⟨0,acS _,rfl,kW.out,uU.out⟩
  clear kW uU
  case round =>
  obtain ⟨i9,hi9,rfl,hb,hR⟩:=hrel
  by_cases CQ:i9 < 32
  ·have y0:=aI hR.h (i9 / 4) (by rw [hR.hl];omega)
   have y1:=aI hb i9 (by simp [yV.out];omega)
   have y2:=aC hb i9
   have G1:Hid (∀ v,v=hf.getD (i9 / 4) 0 / 2 ^ (8 * (3 - i9 % 4)) % 256→(wr.setCell ⟨wo.heap.size,i9,none⟩ (.int .u8 v)).heap[wo.heap.size]? = some (.cells (arr .u8 ((digest hf).take (i9+1) ++ acE (32 - (i9+1)) 0)) 23 (0,0))):=acD (by
    rintro v rfl
    rw [bI hb,yP hf i9 CQ _ (dz hf i9 CQ).symm])
   have CZ:=acD (fun v=>hR.far wo.heap.size i9 xI.out v)
   have e1:(24 - 8 * ((i9:Int) % 4)).toNat=8 * (3 - i9 % 4):=by omega
   have e2:0≤24 - 8 * ((i9:Int) % 4):=by omega
   have e3:24 - 8 * ((i9:Int) % 4)≤24:=by omega
   clear hb hR
   generalize hf.getD (i9 / 4) 0=x at y0 G1
   go_wp2_with fail
   clear e1 e2 e3
   go_roundw
   case rel=>exact ⟨i9+1,by omega,by go_num,G1.out _ (uR _),CZ.out _⟩
   case measure=>simp [intOf];omega
  ·rw [show i9=32 by omega,Nat.sub_self,List.replicate_zero,List.append_nil,acJ (by rw [yV.out];omega)] at hb
   have z1:(Tryd.prog.info? 23).map (·.size)=some (digest hf).length:=by rw [yV.out];exact nN
   have z2:(Tryd.prog.info? 23).map (·.size)=some (arr .u8 (digest hf)).size:=by rw [aD,yV.out];exact nN
   have z3:(arr .u8 (digest hf)).size=(arr .u8 (acE 32 0)).size:=by rw [aD,aD,yV.out,acL]
   have z4:((arr .u8 (digest hf)).toList.drop 0).take (digest hf).length=(digest hf).map (Value.int .u8):=by rw [bN,acN,acJ (by simp)]
   have HB:=acD hb
   have Cw:=acD hR
   have ZZ1:=acD z1
   have ZZ2:=acD z2
   have ZZ3:=acD z3
   have ZZ4:=acD z4
   clear hb hR z1 z2 z3 z4
   go_wp2_with (first|((with_reducible refine aS 222 ?_);refine ak rfl 23 _ rfl wo.heap.size 0 _ 23 (0,0) _ HB.out rfl .u8 (digest hf) ZZ4.out Tryd.underlying23 rfl ZZ1.out ?_)|((with_reducible show wpList _ _ _ (Oper.mk none _ _ _ _ _ :: _) _ _);refine ah rfl 23 _ _ rfl w.heap.size _ _ 23 Cw.out.res rfl rfl ZZ3.out ZZ2.out (av _ _) ?_;intro w7 dR iw kS;have eG:=acD dR;have HK7:=acD iw;clear dR iw kS))
   (try simp only [Exit.inBlock,Exit.then])
   refine bodyPost_ret (results_cell_row rfl _ _ w.heap.size 23 _ (0,0) _ rfl eG.out Tryd.underlying23 rfl ZZ2.out) rfl ?_
   rw [HE2.out]
   exact ⟨rfl,Cw.out.below.trans (HK7.out.toBelow Cw.out.below.size (by rintro i rfl;exact acF _))⟩
end Go.Proofs.YthdgbgleklkaiaaDoor.Ha
