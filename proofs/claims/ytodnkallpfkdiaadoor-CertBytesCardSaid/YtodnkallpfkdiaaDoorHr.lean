/- portcullisref1.padded, the turned words of the document's hash. Condition: the bytes are at most 2^46. The document's hash (94): what it answers. Condition: the bytes are at most 2^46; the table of its numbers holds what its text lays. -/
import Derived.Test.YtodnkallpfkdiaaDoorMb
import Derived.Test.YtodnkallpfkdiaaDoorMa
import Derived.Deep.LoopGhost
import Derived.StillTailTactics
set_option maxRecDepth 100000
set_option maxHeartbeats 16000000
set_option linter.unusedSimpArgs false
set_option linter.unusedVariables false
namespace Go.Proofs.YtodnkallpfkdiaaDoor.Hb
open Go.RowKit
theorem or_comm (k:IntKind) (a b:Int):bits .or k a b=bits .or k b a:=by
 unfold bits
 simp only
 rw [BitVec.or_comm]
theorem ror_1 (x:Int) (w:World):Calls Tryd.prog 138 #[.int .u64 x, .int .u64 1] w fun e w'=>e = .returned (.int .u64 (rot x 2 9223372036854775808))∧w=w':=by
 go_enter Tryd.func138, Tryd.ntmps138
 go_wp2
 go_ret
 exact ⟨by unfold rot;rw [or_comm];rfl,rfl⟩
theorem ror_8 (x:Int) (w:World):Calls Tryd.prog 138 #[.int .u64 x, .int .u64 8] w fun e w'=>e = .returned (.int .u64 (rot x 256 72057594037927936))∧w=w':=by
 go_enter Tryd.func138, Tryd.ntmps138
 go_wp2
 go_ret
 exact ⟨by unfold rot;rw [or_comm];rfl,rfl⟩
theorem ror_14 (x:Int) (w:World):Calls Tryd.prog 138 #[.int .u64 x, .int .u64 14] w fun e w'=>e = .returned (.int .u64 (rot x 16384 1125899906842624))∧w=w':=by
 go_enter Tryd.func138, Tryd.ntmps138
 go_wp2
 go_ret
 exact ⟨by unfold rot;rw [or_comm];rfl,rfl⟩
theorem ror_18 (x:Int) (w:World):Calls Tryd.prog 138 #[.int .u64 x, .int .u64 18] w fun e w'=>e = .returned (.int .u64 (rot x 262144 70368744177664))∧w=w':=by
 go_enter Tryd.func138, Tryd.ntmps138
 go_wp2
 go_ret
 exact ⟨by unfold rot;rw [or_comm];rfl,rfl⟩
theorem ror_19 (x:Int) (w:World):Calls Tryd.prog 138 #[.int .u64 x, .int .u64 19] w fun e w'=>e = .returned (.int .u64 (rot x 524288 35184372088832))∧w=w':=by
 go_enter Tryd.func138, Tryd.ntmps138
 go_wp2
 go_ret
 exact ⟨by unfold rot;rw [or_comm];rfl,rfl⟩
theorem ror_28 (x:Int) (w:World):Calls Tryd.prog 138 #[.int .u64 x, .int .u64 28] w fun e w'=>e = .returned (.int .u64 (rot x 268435456 68719476736))∧w=w':=by
 go_enter Tryd.func138, Tryd.ntmps138
 go_wp2
 go_ret
 exact ⟨by unfold rot;rw [or_comm];rfl,rfl⟩
theorem ror_34 (x:Int) (w:World):Calls Tryd.prog 138 #[.int .u64 x, .int .u64 34] w fun e w'=>e = .returned (.int .u64 (rot x 17179869184 1073741824))∧w=w':=by
 go_enter Tryd.func138, Tryd.ntmps138
 go_wp2
 go_ret
 exact ⟨by unfold rot;rw [or_comm];rfl,rfl⟩
theorem ror_39 (x:Int) (w:World):Calls Tryd.prog 138 #[.int .u64 x, .int .u64 39] w fun e w'=>e = .returned (.int .u64 (rot x 549755813888 33554432))∧w=w':=by
 go_enter Tryd.func138, Tryd.ntmps138
 go_wp2
 go_ret
 exact ⟨by unfold rot;rw [or_comm];rfl,rfl⟩
theorem ror_41 (x:Int) (w:World):Calls Tryd.prog 138 #[.int .u64 x, .int .u64 41] w fun e w'=>e = .returned (.int .u64 (rot x 2199023255552 8388608))∧w=w':=by
 go_enter Tryd.func138, Tryd.ntmps138
 go_wp2
 go_ret
 exact ⟨by unfold rot;rw [or_comm];rfl,rfl⟩
theorem ror_61 (x:Int) (w:World):Calls Tryd.prog 138 #[.int .u64 x, .int .u64 61] w fun e w'=>e = .returned (.int .u64 (rot x 2305843009213693952 8))∧w=w':=by
 go_enter Tryd.func138, Tryd.ntmps138
 go_wp2
 go_ret
 exact ⟨by unfold rot;rw [or_comm];rfl,rfl⟩
def zs' (n:Nat):Nat:=(2 * 128 - 16 - 1 - n % 128) % 128
/-- The length's bytes, the first so many of them. -/
def lenB (n j:Nat):List Int:=(List.range j).map fun i=>if 16 - 1 - i < 8 then ((8 * n / 2 ^ (8 * (16 - 1 - i)) % 256:Nat):Int) else 0
theorem lenB_succ (n j:Nat):lenB n (j+1)=lenB n j ++ [if 16 - 1 - j < 8 then ((8 * n / 2 ^ (8 * (16 - 1 - j)) % 256:Nat):Int) else 0]:=by simp [lenB,List.range_succ]
theorem lenB_all (n:Nat):(128 :: List.replicate (zs' n) 0) ++ lenB n 16=tail n:=by
 unfold tail lenB zs'
 rw [List.append_assoc]
 congr 1
theorem rep_snoc' (k:Nat):(128:Int) :: List.replicate (k+1) 0=(128 :: List.replicate k 0) ++ [0]:=by rw [List.replicate_succ',List.cons_append]
theorem and255 (x:Nat) (hx:x < 9223372036854775808):bits .and .i64 (x:Int) 255=((x % 256:Nat):Int):=by
 have e:x &&& 255=x % 256:=Nat.and_two_pow_sub_one_eq_mod x 8
 have h1:(BitVec.ofInt 64 (x:Int)).toNat=x:=by
  rw [BitVec.ofInt_natCast,BitVec.toNat_ofNat];exact Nat.mod_eq_of_lt (by omega)
 have h2:(BitVec.ofInt 64 (255:Int)).toNat=255:=by decide
 show IntKind.i64.wrap ((BitVec.ofInt 64 (x:Int) &&& BitVec.ofInt 64 (255:Int)).toNat:Int)=_
 rw [BitVec.toNat_and,h1,h2,e,IntKind.wrap_i64]
 omega
/-- The padded bytes while they are made. -/
structure PadR (w wr:World) (v:Value) (ys:List Int):Prop where
 own:Own8 wr w.heap.size v ys
 below:Below w.heap.size w wr
theorem PadR.snoc {w wr w':World} {v v':Value} {ys:List Int} {x:Int} (h:PadR w wr v ys) (o:Obj) (h1:Own8 w' w.heap.size v' (ys ++ [x])) (hg:(wr.alloc o).grownBy w' v.ownBlock):PadR w w' v' (ys ++ [x]) :=
 ⟨h1,app8_below (h.own.alloc o) hg (h.below.alloc h.below.size o) (Nat.le_trans h.below.size (by simp))⟩
theorem padded_any (sa:Option Addr) (n c:Nat) (xs:List Int) (w:World) (hs:Src w sa n xs) (hn:n≤70368744177664) :
  Calls Tryd.prog 51 #[.slice sa n c, .int .i64 128, .int .i64 16] w fun e w'=>∃ v,e = .returned v∧Own8 w' w.heap.size v (xs ++ tail n)∧Below w.heap.size w w':=by
 have hxl:=hs.len
 have HS:=Lib.hid hs
 have HXL:=Lib.hid hxl
 clear hs hxl
 go_enter Tryd.func51, Tryd.ntmps51
 go_wp2_with (first|((with_reducible refine aS 12 ?_);refine wpList_app8 rfl _ _ rfl w.heap.size (.slice none 0 0) [] rfl (Own8.nil _ _) sa n _ xs rfl HS.out ?_ (Nat.le_refl _) ?_;(simp;omega);intro v1 w1 hown1 hgrow1 hnil1 hat1;rw [List.nil_append] at hown1;have hb1:Below w.heap.size w w1:=(Below.refl _ w).grown hgrow1 (Nat.le_refl _) (fun k hk=>by cases hk);have HO1:=Lib.hid hown1;clear hown1 hgrow1 hnil1 hat1)|((with_reducible refine aS 14 ?_);refine wpList_app8 rfl _ _ rfl w.heap.size v1 xs rfl (HO1.out.alloc _) (some ⟨w1.heap.size,0,none⟩) 1 _ [128] rfl (src_one _ _) ?_ (Nat.le_trans hb1.size (by simp)) ?_;(rw [HXL.out];omega);intro v2 w2 hown2 hgrow2 hnil2 hat2;have HP2:=Lib.hid (PadR.snoc ⟨HO1.out,hb1⟩ _ hown2 hgrow2);clear hown2 hgrow2 hnil2 hat2))
 obtain ⟨s2,c2,hv2, -⟩:=HP2.out.own.form
 rw [List.length_append,HXL.out,List.length_singleton] at hv2
 subst hv2
 go_loopg [7] (zs' n) (fun g m wr=>∃ (k l:Nat) (sv:Option Addr) (cv:Nat),g+k=zs' n∧l=n+1+k∧m = .slice sv l cv∧PadR w wr (.slice sv l cv) (xs ++ (128 :: List.replicate k 0)))
 case atStart=>exact ⟨0,n+1,s2,c2,by omega,rfl,rfl,HP2.out⟩
 case round =>
  obtain ⟨k,l,sv,cv,hk,hl,rfl,hp⟩:=hrel
  obtain ⟨wo,rfl⟩:∃ wo:World,wo=wr:=⟨_,rfl⟩
  have hzs:zs' n=(2 * 128 - 16 - 1 - n % 128) % 128:=rfl
  have hmod:((l:Int) % 128)=(((n+1+k) % 128:Nat):Int):=by rw [hl];omega
  have hl1:l≤140737488355000:=by rw [hl];omega
  have HL:=Lib.hid hl
  by_cases hlt:k < zs' n
  ·have t1:(((l:Int) % 128) == 112)=false:=by rw [hmod];simp;omega
   have t2:(((l:Int) % 128) != 112)=true:=by rw [hmod];simp;omega
   have HP:=Lib.hid hp
   clear hzs hmod hp hl
   go_wp2_with ((with_reducible refine aS 25 ?_);refine wpList_app8 rfl _ _ rfl w.heap.size (.slice sv l cv) (xs ++ (128 :: List.replicate k 0)) rfl (HP.out.own.alloc _) (some ⟨wo.heap.size,0,none⟩) 1 _ [0] rfl (src_one _ _) ?_ (Nat.le_trans HP.out.below.size (by simp)) ?_;(rw [List.length_append,HXL.out,List.length_cons,List.length_replicate];have:=HL.out;omega);intro v5 w5 hown5 hgrow5 hnil5 hat5;have hp5:=PadR.snoc HP.out _ hown5 hgrow5;clear hown5 hgrow5 hnil5 hat5;rw [List.append_assoc,← rep_snoc'] at hp5;obtain ⟨s5,c5,hv5, -⟩:=hp5.own.form;rw [List.length_append,HXL.out,List.length_cons,List.length_replicate,show n+(k+1+1)=l+1 by have:=HL.out;omega] at hv5;subst hv5;have HP5:=Lib.hid hp5;clear hp5)
   go_roundg (gk - 1)
   case measure=>omega
   case rel=>exact ⟨k+1,l+1,s5,c5,by omega,by have:=HL.out;omega,rfl,HP5.out⟩
  ·have t1:(((l:Int) % 128) == 112)=true:=by rw [hmod];simp;omega
   have t2:(((l:Int) % 128) != 112)=false:=by rw [hmod];simp;omega
   have ek:k=zs' n:=by omega
   obtain ⟨ys,hys⟩:∃ ys,ys=xs ++ (128 :: List.replicate k 0):=⟨_,rfl⟩
   rw [← hys] at hp
   rw [ek] at hys
   have hyl:ys.length=l:=by rw [hys,hl,ek,List.length_append,HXL.out];simp;omega
   have HYS:=Lib.hid hys
   have HYL:=Lib.hid hyl
   have HP:=Lib.hid hp
   clear hzs hmod hp hl ek hys hyl
   go_wp2_with fail
   go_loopg [7,9] 16 (fun g m i wr=>∃ (j l':Nat) (sv:Option Addr) (cv:Nat),g+j=16∧l'=l+j∧i = .int .i64 (15 - (j:Int))∧m = .slice sv l' cv∧PadR w wr (.slice sv l' cv) (ys ++ lenB n j))
   case atStart=>exact ⟨0,l,sv,cv,rfl,rfl,rfl,rfl,by simpa [lenB] using HP.out⟩
   case round =>
    obtain ⟨j,l',sv',cv',hj,hl',rfl,rfl,hp⟩:=hrel
    obtain ⟨wo2,rfl⟩:∃ wo2:World,wo2=wr:=⟨_,rfl⟩
    have hll:(lenB n j).length=j:=by simp [lenB]
    have HLL:=Lib.hid hll
    have HL':=Lib.hid hl'
    have HP3:=Lib.hid hp
    clear hll hl' hp
    by_cases hlt2:j < 16
    ·by_cases h8:15 - j < 8
     ·have e1:(8 * (15 - (j:Int))).toNat=8 * (15 - j):=by omega
      have e2:0≤8 * (15 - (j:Int)):=by omega
      have e3:8 * (15 - (j:Int))≤56:=by omega
      have e4:(15:Int) - (j:Int) < 8:=by omega
      have e5:bits .and .i64 (8 * (n:Int) / 2 ^ (8 * (15 - j))) 255=((8 * n / 2 ^ (8 * (15 - j)) % 256:Nat):Int):=by
       rw [show (8 * (n:Int) / 2 ^ (8 * (15 - j)))=((8 * n / 2 ^ (8 * (15 - j)):Nat):Int) by rw [Int.natCast_ediv,Int.natCast_mul,Int.natCast_pow];rfl]
       exact and255 _ (Nat.lt_of_le_of_lt (Nat.div_le_self _ _) (by omega))
      have e6:lenB n (j+1)=lenB n j ++ [((8 * n / 2 ^ (8 * (15 - j)) % 256:Nat):Int)]:=by rw [lenB_succ,if_pos h8]
      obtain ⟨x,hx⟩:∃ x,x=8 * n / 2 ^ (8 * (15 - j)) % 256:=⟨_,rfl⟩
      have hx1:x < 256:=by rw [hx];exact Nat.mod_lt _ (by omega)
      rw [← hx] at e5 e6
      have E6:=Lib.hid e6
      clear hx e6
      go_wp2_with ((with_reducible refine aS 47 ?_);refine wpList_app8 rfl _ _ rfl w.heap.size (.slice sv' l' cv') (ys ++ lenB n j) rfl (HP3.out.own.alloc _) (some ⟨wo2.heap.size,0,none⟩) 1 _ [(x:Int)] rfl (src_one _ _) ?_ (Nat.le_trans HP3.out.below.size (by simp)) ?_;(rw [List.length_append,HYL.out,HLL.out];omega);intro v5 w5 hown5 hgrow5 hnil5 hat5;have hp5:=PadR.snoc HP3.out _ hown5 hgrow5;clear hown5 hgrow5 hnil5 hat5;rw [List.append_assoc,← E6.out] at hp5;obtain ⟨s5,c5,hv5, -⟩:=hp5.own.form;rw [List.length_append,HYL.out,E6.out,List.length_append,HLL.out,List.length_singleton,show l+(j+1)=l'+1 by have:=HL'.out;omega] at hv5;subst hv5;have HP5:=Lib.hid hp5;clear hp5)
      go_roundg (gk - 1)
      case measure=>omega
      case rel=>exact ⟨j+1,l'+1,s5,c5,by omega,by have:=HL'.out;omega,by congr 1;omega,rfl,HP5.out⟩
     ·have e6:lenB n (j+1)=lenB n j ++ [0]:=by rw [lenB_succ,if_neg h8]
      have e4:¬ (15:Int) - (j:Int) < 8:=by omega
      have E6:=Lib.hid e6
      clear e6
      go_wp2_with ((with_reducible refine aS 47 ?_);refine wpList_app8 rfl _ _ rfl w.heap.size (.slice sv' l' cv') (ys ++ lenB n j) rfl (HP3.out.own.alloc _) (some ⟨wo2.heap.size,0,none⟩) 1 _ [0] rfl (src_one _ _) ?_ (Nat.le_trans HP3.out.below.size (by simp)) ?_;(rw [List.length_append,HYL.out,HLL.out];omega);intro v5 w5 hown5 hgrow5 hnil5 hat5;have hp5:=PadR.snoc HP3.out _ hown5 hgrow5;clear hown5 hgrow5 hnil5 hat5;rw [List.append_assoc,← E6.out] at hp5;obtain ⟨s5,c5,hv5, -⟩:=hp5.own.form;rw [List.length_append,HYL.out,E6.out,List.length_append,HLL.out,List.length_singleton,show l+(j+1)=l'+1 by have:=HL'.out;omega] at hv5;subst hv5;have HP5:=Lib.hid hp5;clear hp5)
      go_roundg (gk - 1)
      case measure=>omega
      case rel=>exact ⟨j+1,l'+1,s5,c5,by omega,by have:=HL'.out;omega,by congr 1;omega,rfl,HP5.out⟩
    ·have ej:j=16:=by omega
     have hfin:Own8 wo2 w.heap.size (.slice sv' l' cv') (xs ++ tail n):=by
      have:=HP3.out.own
      rwa [ej,HYS.out,List.append_assoc,lenB_all] at this
     have hbe:=HP3.out.below
     have HF:=Lib.hid hfin
     clear ej hfin
     go_wp2_with fail
     go_ret
     exact ⟨_,rfl,HF.out,hbe⟩
end Go.Proofs.YtodnkallpfkdiaaDoor.Hb
namespace Go.Proofs.YtodnkallpfkdiaaDoor.Hb
open Go.RowKit
/-- The table's numbers. -/
def TabK (w:World):Prop:=∀ t,t < 80→w.cell? ⟨4, t,none⟩=some (.int .u64 (K.getD t 0))
/-- What holds all along. -/
structure RefR (w wr:World) (lim:Nat) (sm:Option Addr) (lm cm:Nat) (pm hs:List Int):Prop where
 h:wr.heap[w.heap.size+1]? = some (.cells (arr .u64 hs) 172 (0,0))
 own:Own8 wr (w.heap.size+2) (.slice sm lm cm) pm
 res:wr.heap[w.heap.size]? = some (.cells (arr .u8 (List.replicate 64 0)) 26 (0,0))
 below:Below w.heap.size w wr
 tab:TabK wr
 lt3:w.heap.size+1 < lim
 ltO:∀ k,(Value.slice sm lm cm).ownBlock=some k→k < lim
 ltG : 4 < w.heap.size
 sz:lim≤wr.heap.size
 hl:hs.length=8
theorem RefR.kept {T:Nat→Prop} {w wr w':World} {lim:Nat} {sm:Option Addr} {lm cm:Nat} {pm hs:List Int} (h:RefR w wr lim sm lm cm pm hs) (k:Kept T wr w') (hT:∀ i,T i→lim≤i):RefR w w' lim sm lm cm pm hs:=by
 have l3:=h.lt3
 have lg:=h.ltG
 refine ⟨k.blk h.h (fun e=>by have:=hT _ e;omega),h.own.kept k (fun g hg e=>by have:=hT _ e;have:=h.ltO g hg;omega),k.blk h.res (fun e=>by have:=hT _ e;omega),?_,?_,l3,h.ltO,lg,Nat.le_trans h.sz k.size,h.hl⟩
 ·exact h.below.trans (k.toBelow h.below.size (fun i e=>by have:=hT i e;omega))
 ·intro t ht
  exact k.cellX (h.tab t ht) (fun e=>by have:lim ≤ 4 := hT _ e;omega)
theorem RefR.alloc {w wr:World} {lim:Nat} {sm:Option Addr} {lm cm:Nat} {pm hs:List Int} (h:RefR w wr lim sm lm cm pm hs) (o:Obj):RefR w (wr.alloc o) lim sm lm cm pm hs:=h.kept (T:=fun _=>False) ((Kept.refl _ _).alloc o) (fun _ e=>e.elim)
theorem RefR.drewN {w wr:World} {lim:Nat} {sm:Option Addr} {lm cm:Nat} {pm hs:List Int} (h:RefR w wr lim sm lm cm pm hs) (n:Nat):RefR w (wr.drewN n) lim sm lm cm pm hs:=h.kept (T:=fun _=>False) ((Kept.refl _ _).drewN n) (fun _ e=>e.elim)
theorem RefR.drew {w wr:World} {lim:Nat} {sm:Option Addr} {lm cm:Nat} {pm hs:List Int} (h:RefR w wr lim sm lm cm pm hs):RefR w wr.drew lim sm lm cm pm hs:=h.kept (T:=fun _=>False) ((Kept.refl _ _).drew) (fun _ e=>e.elim)
theorem RefR.far {w wr:World} {lim:Nat} {sm:Option Addr} {lm cm:Nat} {pm hs:List Int} (h:RefR w wr lim sm lm cm pm hs) (g i:Nat) (hg:lim≤g) (v:Value):RefR w (wr.setCell ⟨g,i,none⟩ v) lim sm lm cm pm hs :=
 h.kept ((Kept.refl (fun x=>x=g) wr).at i v) (by rintro i rfl;exact hg)
theorem RefR.seth {w wr:World} {lim:Nat} {sm:Option Addr} {lm cm:Nat} {pm hs:List Int} (h:RefR w wr lim sm lm cm pm hs) (i:Nat) (x:Int):RefR w (wr.setCell ⟨w.heap.size+1,i,none⟩ (.int .u64 x)) lim sm lm cm pm (hs.set i x):=by
 have k:Kept (fun x=>x=w.heap.size+1) wr (wr.setCell ⟨w.heap.size+1,i,none⟩ (.int .u64 x)):=(Kept.refl _ _).at _ _
 refine ⟨blk_arr_set h.h i x,h.own.kept k (fun g hg e=>?_),k.blk h.res (by omega),h.below.setCell (p:=⟨w.heap.size+1,i,none⟩) (by simp) _,fun t ht=>?_,h.lt3,h.ltO,h.ltG,by rw [show (wr.setCell ⟨w.heap.size+1,i,none⟩ (.int .u64 x)).heap.size=wr.heap.size by simp [World.setCell]];exact h.sz,by rw [List.length_set];exact h.hl⟩
 ·have:=(h.own.lt g hg).1
  omega
 ·refine k.cellX (h.tab t ht) (fun e=>?_)
  have e : 4 = w.heap.size+1:=e
  have:=h.ltG
  omega
theorem TabK.lt {w:World} (h:TabK w) : 4 < w.heap.size:=World.block_lt_of_cell? _ _ (h 0 (by omega))
theorem build_H0 (w:World):(Instr.build 172 #[(0, .int .u64 7640891576956012808),(1, .int .u64 13503953896175478587),(2, .int .u64 4354685564936845355),(3, .int .u64 11912009170470909681),(4, .int .u64 5840696475078001361),(5, .int .u64 11170449401992604703),(6, .int .u64 2270897969802886507),(7, .int .u64 6620516959819538809)]).run Tryd.prog w = .ok (.agg (arr .u64 H0)) w:=by kernel_rfl
theorem quiet_add_same {P:Program} {f:FuncId} {args:Array Value} {w:World} {a n:Nat} {v:Value}
  (h:Calls P f args (w.drewN (a+n)) fun e w'=>e = .returned v∧w.drewN (a+n)=w'):Calls P f args (w.drewN (a+n)) fun e w''=>e = .returned v∧∃ m,w''=w.drewN (a+m) :=
 h.mono fun _ _ ⟨he,hm⟩=>⟨he,n,hm.symm⟩
theorem quiet_same {P:Program} {f:FuncId} {args:Array Value} {w:World} {n:Nat} {v:Value}
  (h:Calls P f args (w.drewN n) fun e w'=>e = .returned v∧w.drewN n=w'):Calls P f args (w.drewN n) fun e w''=>e = .returned v∧∃ m,w''=w.drewN m :=
 h.mono fun _ _ ⟨he,hm⟩=>⟨he,n,hm.symm⟩
theorem and255w (y:Int):IntKind.u8.wrap (bits .and .u64 y 255)=y % 256:=by
 have h2:(BitVec.ofInt 64 (255:Int)).toNat=255:=by decide
 have e:∀ x:Nat,x &&& 255=x % 256:=fun x=>Nat.and_two_pow_sub_one_eq_mod x 8
 show IntKind.u8.wrap (IntKind.u64.wrap ((BitVec.ofInt 64 y &&& BitVec.ofInt 64 (255:Int)).toNat:Int))=_
 rw [BitVec.toNat_and,h2,e,BitVec.toNat_ofInt,IntKind.wrap_u8,IntKind.wrap_u64]
 omega
theorem RefR.cell {w wr:World} {lim:Nat} {sm:Option Addr} {lm cm:Nat} {pm hs:List Int} (h:RefR w wr lim sm lm cm pm hs) (i:Nat) (hi:i < pm.length):∃ a,sm=some a∧wr.cell? (a.add i)=some (.int .u8 (pm.getD i 0)):=by
 obtain ⟨sa,c,hv, -, -, hs, -⟩:=h.own.form
 cases hv
 exact hs.cell i hi
theorem sti {P:Program} {f:FuncId} {args:Array Value} {w:World} {v:Value} (h:Calls P f args w fun e w'=>e = .returned v∧w=w'):Calls P f args w fun e w''=>e = .returned v∧w''=w:=h.mono fun _ _ h=>⟨h.1,h.2.symm⟩
theorem hash_end (xs pm:List Int) (n Q:Nat) (hn:xs.length=n) (hp:pm=xs ++ tail n) (hl:pm.length=128 * Q):hash xs=digest (hsOf pm Q):=by
 subst hn hp
 unfold hash
 rw [hs_end _ Q hl]
theorem pm_bytes (xs pm:List Int) (n:Nat) (hx:bytes xs) (hp:pm=xs ++ tail n):∀ x∈pm,0≤x∧x≤255:=by
 subst hp
 intro x h
 rcases List.mem_append.1 h with h|h
 ·exact hx x h
 ·exact tail_bytes n x h
theorem flatn (a b c d:Int):IntKind.u64.wrap (IntKind.u64.wrap (IntKind.u64.wrap (a+b)+c)+d)=add (add (add d c) b) a:=by
 simp only [add,IntKind.wrap_u64]
 omega
theorem ref_any (sa:Option Addr) (n c:Nat) (xs:List Int) (w:World) (hs:Src w sa n xs) (hx:bytes xs) (hn:n≤70368744177664) (hk:TabK w) :
  Calls Tryd.prog 94 #[.slice sa n c] w fun e w'=>e = .returned (.agg (arr .u8 (hash xs)))∧Below w.heap.size w w':=by
 have hg:=hk.lt
 have hxl:=hs.len
 have z1:(Tryd.prog.info? 172).map (·.size)=some (arr .u64 H0).size:=size8
 have z2:(arr .u64 H0).size=(arr .u64 (List.replicate 8 0)).size:=rfl
 have HS:=Lib.hid hs
 have HX:=Lib.hid hx
 have HK:=Lib.hid hk
 have HG:=Lib.hid hg
 have HXL:=Lib.hid hxl
 have Z1:=Lib.hid z1
 have Z2:=Lib.hid z2
 have B1:=Lib.hid (blk_new w (.cells (arr .u8 (List.replicate 64 0)) 26))
 have B2:=Lib.hid (blk_new (w.alloc (.cells (arr .u8 (List.replicate 64 0)) 26)) (.cells (arr .u64 (List.replicate 8 0)) 172))
 have eA:(w.alloc (.cells (arr .u8 (List.replicate 64 0)) 26)).heap.size=w.heap.size+1:=by simp
 rw [eA] at B2
 have EA:=Lib.hid eA
 clear hs hx hk hg hxl z1 z2 eA
 go_enter Tryd.func94, Tryd.ntmps94
 go_wp2_with (first|((with_reducible refine aS 2 ?_);refine wpList_alloc_row rfl 26 rfl _ (zeroOut _) ?_)|((with_reducible refine aS 21 ?_);refine wpList_build rfl 172 _ rfl #[(0, .int .u64 7640891576956012808),(1, .int .u64 13503953896175478587),(2, .int .u64 4354685564936845355),(3, .int .u64 11912009170470909681),(4, .int .u64 5840696475078001361),(5, .int .u64 11170449401992604703),(6, .int .u64 2270897969802886507),(7, .int .u64 6620516959819538809)] rfl _ (build_H0 _) ?_)|((with_reducible refine aS 3 ?_);refine wpList_alloc_row rfl 172 rfl _ (zero8 _) ?_;rw [EA.out])|((with_reducible show wpList _ _ _ (Oper.mk none _ _ _ _ _ :: _) _ _);refine wpList_store_whole rfl 172 _ _ rfl (w.heap.size+1) _ _ 172 B2.out rfl rfl Z2.out Z1.out (all_arr _ _) ?_;intro w1 hb1 hk1 hz1;have hw1:=(((Below.refl _ w).alloc (Nat.le_refl _) _).alloc (by simp) _).trans (hk1.toBelow (B:=w.heap.size) (by simp;omega) (by rintro i rfl;omega));have HW1:=Lib.hid hw1;have HB1:=Lib.hid hb1;have HK1:=Lib.hid hk1;have HZ1:=Lib.hid hz1;clear hb1 hk1 hz1 hw1)|(go_at_call 51; refine (padded_any sa n c xs w1 (HS.out.below HW1.out) hn).mono ?_;rintro e w2 ⟨v,rfl,hown2,hbl2⟩;have HO2:=Lib.hid hown2;have HBL2:=Lib.hid hbl2;clear hown2 hbl2))
 have hz1:w1.heap.size=w.heap.size+2:=by rw [HZ1.out];simp
 obtain ⟨pm,hpm⟩:∃ pm,pm=xs ++ tail n:=⟨_,rfl⟩
 obtain ⟨lim,hlim⟩:∃ lim,lim=w2.heap.size:=⟨_,rfl⟩
 obtain ⟨Q,hQ⟩:=tail_len n
 have hpl:pm.length=128 * Q:=by rw [hpm,List.length_append,HXL.out];exact hQ
 have ho2:=HO2.out
 rw [← hpm] at ho2
 obtain ⟨sm,cm,hvm, -, -, -, -⟩:=ho2.form
 rw [hpl] at hvm
 subst hvm
 have hb2s:=HBL2.out.size
 have hbw2:Below w.heap.size w w2:=HW1.out.trans (HBL2.out.mono (by omega))
 have hR0:RefR w w2 lim sm (128 * Q) cm pm (hsOf pm 0):=by
  have hg:=HG.out
  refine ⟨?_,ho2.mono (by omega),Below.blk HBL2.out (HK1.out.blk (blk_alloc B1.out _) (by omega)) (by omega),hbw2,fun t ht=>below_cell hbw2 (HK.out t ht),by omega,fun k hk=>by rw [hlim];exact (ho2.lt k hk).2,hg,by omega,hs_len _ _⟩
  rw [hs_zero]
  exact Below.blk HBL2.out HB1.out (by omega)
 have hnl:(128 * Q)≤70368744178000:=by
  have hq:n+(tail n).length=(128 * Q):=hQ
  have:(tail n).length≤256:=by simp [tail];omega
  omega
 have hbyt:=pm_bytes xs pm n HX.out hpm
 have HEND:=Lib.hid (hash_end xs pm n Q HXL.out hpm hpl)
 have HPL:=Lib.hid hpl
 have HR0:=Lib.hid hR0
 have HBYT:=Lib.hid hbyt
 clear hz1 hpm hlim hQ hpl ho2 hb2s hbw2 hR0 hbyt HO2 HBL2 HW1 HB1 HK1 HZ1 B1 B2 EA
 go_wp2_with fail
 go_loopw [5] (fun i wr=>∃ q:Nat,q≤Q∧i = .int .i64 (128 * (q:Int))∧RefR w wr lim sm (128 * Q) cm pm (hsOf pm q)) (fun i _=>(128 * Q) - (intOf i).toNat)
 case atStart=>exact ⟨0,by omega,rfl,HR0.out⟩
 clear HR0
 case round =>
 obtain ⟨q,hq,rfl,hR⟩:=hrel
 obtain ⟨wo,rfl⟩:∃ wo:World,wo=wr:=⟨_,rfl⟩
 by_cases hlt:q < Q
 ·obtain ⟨hv0,hh⟩:∃ hv0,hv0=hsOf pm q:=⟨_,rfl⟩
  obtain ⟨bl,hbl⟩:∃ bl,bl=blkOf pm q:=⟨_,rfl⟩
  have hsu:hsOf pm (q+1)=comp hv0 bl:=by rw [hh,hbl];exact hs_succ pm q (by rw [HPL.out];omega)
  have hby:∀ j,0≤bl.getD j 0∧bl.getD j 0≤255:=by
   intro j
   refine byte_at (fun x hx=>HBYT.out x ?_) j
   rw [hbl] at hx
   exact List.mem_of_mem_drop (List.mem_of_mem_take hx)
  have hR1:=hR
  rw [← hh] at hR1
  have HSZ:=Lib.hid hR.sz
  have HR2:=Lib.hid (hR1.alloc (.cells (arr .u64 (List.replicate 80 0)) 177))
  have hb2:=blk_new wo (.cells (arr .u64 (List.replicate 80 0)) 177)
  rw [← pre_zero bl] at hb2
  have HB2:=Lib.hid hb2
  have HSU:=Lib.hid hsu
  have HBY:=Lib.hid hby
  have HBL:=Lib.hid hbl.symm
  have HHL:=Lib.hid hR1.hl
  clear hR hR1 hb2 hsu hby hbl hh
  go_wp2_with ((with_reducible refine aS 6 ?_);refine wpList_alloc_row rfl 177 rfl _ (zeroR _) ?_)
  rw [pre_zero bl] at HB2
  rw [← pre_zero bl] at HB2
  go_loopw [7] (fun i wr=>∃ i6:Nat,i6≤16∧i = .int .i64 i6∧RefR w wr lim sm (128 * Q) cm pm hv0∧wr.heap[wo.heap.size]? = some (.cells (arr .u64 (pre bl (8 * i6))) 177 (0,0))) (fun i _=>16 - (intOf i).toNat)
  case atStart=>exact ⟨0,by omega,rfl,HR2.out,HB2.out⟩
  case round =>
   obtain ⟨i6,hi6,rfl,hR,hb⟩:=hrel
   by_cases hlt6:i6 < 16
   ·have HR:=Lib.hid hR
    have HB:=Lib.hid hb
    clear hR hb
    go_wp2_with fail
    go_loopw [8] (fun i wr=>∃ k6:Nat,k6≤8∧i = .int .i64 k6∧RefR w wr lim sm (128 * Q) cm pm hv0∧wr.heap[wo.heap.size]? = some (.cells (arr .u64 (pre bl (8 * i6+k6))) 177 (0,0))) (fun i _=>8 - (intOf i).toNat)
    case atStart=>exact ⟨0,by omega,rfl,HR.out,HB.out⟩
    case round =>
     obtain ⟨k6,hk6,rfl,hR,hb⟩:=hrel
     by_cases hlt7:k6 < 8
     ·obtain ⟨ad,rfl,y1⟩:=hR.cell (128 * q+(8 * i6+k6)) (by rw [HPL.out];omega)
      rw [← blk_get pm q (8 * i6+k6) (by omega),HBL.out] at y1
      obtain ⟨b0,b1⟩:=HBY.out (8 * i6+k6)
      have y0:=blk_arr hb i6 (by rw [pre_len];omega)
      have yf:=free_blk hb i6
      have hps:=pre_succ bl (8 * i6+k6) (by omega)
      rw [show (8 * i6+k6) / 8=i6 by omega] at hps
      have g1:=blk_arr_set hb i6 (bits .or .u64 (IntKind.u64.wrap ((pre bl (8 * i6+k6)).getD i6 0 * 256)) (bl.getD (8 * i6+k6) 0))
      rw [← hps] at g1
      have G1:=Lib.hid g1
      have HR4:=Lib.hid (fun v=>hR.far wo.heap.size i6 HSZ.out v)
      clear hR hb hps g1
      generalize (pre bl (8 * i6+k6)).getD i6 0=y at y0 G1
      generalize bl.getD (8 * i6+k6) 0=x at y1 b0 b1 G1
      have j1:IntKind.i64.wrap (8 * (i6:Int))=8 * (i6:Int):=IntWalk.i64_in _ (by omega)
      have j2:IntKind.i64.wrap (128 * (q:Int)+8 * (i6:Int))=128 * (q:Int)+8 * (i6:Int):=IntWalk.i64_in _ (by omega)
      have j3:IntKind.i64.wrap (128 * (q:Int)+8 * (i6:Int)+(k6:Int))=128 * (q:Int)+8 * (i6:Int)+(k6:Int):=IntWalk.i64_in _ (by omega)
      have n1:(128 * (q:Int)+8 * (i6:Int)+(k6:Int)).toNat=128 * q+(8 * i6+k6):=by omega
      have n2:0≤128 * (q:Int)+8 * (i6:Int)+(k6:Int):=by omega
      have n3:128 * (q:Int)+8 * (i6:Int)+(k6:Int) < ((128 * Q):Int):=by omega
      go_wp2_with fail
      go_region
      clear j1 j2 j3 n1 n2 n3
      go_wp2_with fail
      go_roundw
      case rel=>exact ⟨k6+1,by omega,by go_num,(HR4.out _).drew,G1.out⟩
      case measure=>simp [intOf];omega
     ·rw [show 8 * i6+k6=8 * (i6+1) by omega] at hb
      have HR4:=Lib.hid hR
      have HB4:=Lib.hid hb
      clear hR hb
      go_wp2_with fail
      go_roundw
      case rel=>exact ⟨i6+1,by omega,by go_num,HR4.out,HB4.out⟩
      case measure=>simp [intOf];omega
   ·rw [show i6=16 by omega,show 8 * 16=128 from rfl] at hb
    have HR5:=Lib.hid hR
    have hb5:wr.heap[wo.heap.size]? = some (.cells (arr .u64 (sched bl 0)) 177 (0,0)):=hb
    have HB5:=Lib.hid hb5
    clear hR hb hb5
    go_wp2_with fail
    go_loopw [9] (fun i wr=>∃ t:Nat,16≤t∧t≤80∧i = .int .i64 t∧RefR w wr lim sm (128 * Q) cm pm hv0∧wr.heap[wo.heap.size]? = some (.cells (arr .u64 (sched bl (t - 16))) 177 (0,0))) (fun i _=>80 - (intOf i).toNat)
    case atStart=>exact ⟨16,by omega,by omega,rfl,HR5.out,HB5.out⟩
    clear HR5 HB5
    case round =>
    obtain ⟨t,h16,ht,rfl,hR,g1⟩:=hrel
    by_cases hltt:t < 80
    ·have hsl:=sched_len bl (t - 16)
     have x2:=blk_arr g1 (t - 2) (by omega)
     have x7:=blk_arr g1 (t - 7) (by omega)
     have x15:=blk_arr g1 (t - 15) (by omega)
     have x16:=blk_arr g1 (t - 16) (by omega)
     have xt:=blk_arr g1 t (by omega)
     have xf:=free_blk g1 t
     have hnx:sched bl (t - 16+1)=(sched bl (t - 16)).set t (next (sched bl (t - 16)) t):=by
      have:=sched_succ bl (t - 16)
      rwa [show 16+(t - 16)=t by omega] at this
     have g1':=blk_arr_set g1 t (next (sched bl (t - 16)) t)
     rw [← hnx,show t - 16+1=t+1 - 16 by omega] at g1'
     have G1:Hid (∀ v,v=next (sched bl (t - 16)) t→(wr.setCell ⟨wo.heap.size,t,none⟩ (.int .u64 v)).heap[wo.heap.size]? = some (.cells (arr .u64 (sched bl (t+1 - 16))) 177 (0,0))):=Lib.hid (by rintro v rfl;exact g1')
     have HR6:=Lib.hid (fun v=>hR.far wo.heap.size t HSZ.out v)
     clear g1 g1' hR hsl hnx
     unfold next at G1
     generalize (sched bl (t - 16)).getD (t - 2) 0=y2 at x2 G1
     generalize (sched bl (t - 16)).getD (t - 7) 0=y7 at x7 G1
     generalize (sched bl (t - 16)).getD (t - 15) 0=y15 at x15 G1
     generalize (sched bl (t - 16)).getD (t - 16) 0=y16 at x16 G1
     have i15:IntKind.i64.wrap ((t:Int) - 15)=(t:Int) - 15:=IntWalk.i64_in _ (by omega)
     have i2:IntKind.i64.wrap ((t:Int) - 2)=(t:Int) - 2:=IntWalk.i64_in _ (by omega)
     have i7:IntKind.i64.wrap ((t:Int) - 7)=(t:Int) - 7:=IntWalk.i64_in _ (by omega)
     have i16:IntKind.i64.wrap ((t:Int) - 16)=(t:Int) - 16:=IntWalk.i64_in _ (by omega)
     have n15:((t:Int) - 15).toNat=t - 15:=by omega
     have n2:((t:Int) - 2).toNat=t - 2:=by omega
     have n7:((t:Int) - 7).toNat=t - 7:=by omega
     have n16:((t:Int) - 16).toNat=t - 16:=by omega
     have p16:16≤(t:Int):=by omega
     have p7:7≤(t:Int):=by omega
     have q16:(t:Int) - 16 < 80:=by omega
     have q7:(t:Int) - 7 < 80:=by omega
     have qt:(t:Int) < 80:=by omega
     go_wp2_with fail
     refine wp_region_still_tail 29 (by kernel_rfl) (by kernel_rfl) ?_
     simp only [List.take_succ_cons,List.take_zero,List.drop_succ_cons,List.drop_zero]
     repeat still_step
     (refine wpStill_step (fun K hK=>?_);go_simp;refine Exists.intro _ (And.intro (sti (ror_1 _ _)) ?_);refine hK _ ?_;clear hK K)
     repeat still_step
     (refine wpStill_step (fun K hK=>?_);go_simp;refine Exists.intro _ (And.intro (sti (ror_8 _ _)) ?_);refine hK _ ?_;clear hK K)
     repeat still_step
     (refine wpStill_step (fun K hK=>?_);go_simp;refine Exists.intro _ (And.intro (sti (ror_19 _ _)) ?_);refine hK _ ?_;clear hK K)
     repeat still_step
     (refine wpStill_step (fun K hK=>?_);go_simp;refine Exists.intro _ (And.intro (sti (ror_61 _ _)) ?_);refine hK _ ?_;clear hK K)
     repeat still_step
     refine wpStill_nil ?_
     change wpList _ _ _ _ _ wr.drew
     go_wp2_with fail
     clear i15 i2 i7 i16 n15 n2 n7 n16 p16 p7 q16 q7 qt
     go_roundw
     case rel=>exact ⟨t+1,by omega,by omega,by go_num,(HR6.out _).drew,G1.out _ (flatn y16 (s0 y15) y7 (s1 y2))⟩
     case measure=>simp [intOf];omega
    ·obtain rfl:t=80:=by omega
     obtain ⟨ws,hws⟩:∃ ws,ws=sched bl (80 - 16):=⟨_,rfl⟩
     rw [← hws] at g1
     have hwl:ws.length=80:=by rw [hws];exact sched_len _ _
     have hp8:((arr .u64 hv0).toList.drop 0).take hv0.length=hv0.map (Value.int .u64):=by rw [List.drop_zero,arr_toList,List.take_of_length_le (by simp)]
     have hz8:(Tryd.prog.info? 172).map (·.size)=some hv0.length:=by rw [hR.hl];exact size8
     have z3:(Tryd.prog.info? 172).map (·.size)=some (arr .u64 hv0).size:=by rw [arr_size,hR.hl];exact size8
     have z4:(arr .u64 hv0).size=(arr .u64 (List.replicate 8 0)).size:=by rw [arr_size,arr_size,hR.hl,List.length_replicate]
     have HWS:=Lib.hid hws
     have HWL:=Lib.hid hwl
     have HP8:=Lib.hid hp8
     have HZ8:=Lib.hid hz8
     have Z3:=Lib.hid z3
     have Z4:=Lib.hid z4
     have HG1:=Lib.hid (blk_alloc g1 (.cells (arr .u64 (List.replicate 8 0)) 172))
     have HLT:=Lib.hid (blk_lt g1)
     have HH:=Lib.hid hR.h
     have HR7:=Lib.hid (hR.alloc (.cells (arr .u64 (List.replicate 8 0)) 172))
     have HA8:=Lib.hid (blk_new wr (.cells (arr .u64 (List.replicate 8 0)) 172))
     have HSW:=Lib.hid hR.sz
     obtain ⟨wp,rfl⟩:∃ wp:World,wp=wr:=⟨_,rfl⟩
     clear hws hwl hp8 hz8 z3 z4 g1 hR
     go_wp2_with (first|((with_reducible refine aS 96 ?_);refine wpList_load_part rfl 172 _ rfl (w.heap.size+1) 0 _ 172 (0,0) _ HH.out rfl .u64 hv0 HP8.out Tryd.underlying172 rfl HZ8.out ?_)|((with_reducible refine aS 12 ?_);refine wpList_alloc_row rfl 172 rfl _ (zero8 _) ?_)|((with_reducible show wpList _ _ _ (Oper.mk none _ _ _ _ _ :: _) _ _);refine wpList_store_whole rfl 172 _ _ rfl wp.heap.size _ _ 172 HA8.out rfl rfl Z4.out Z3.out (all_arr _ _) ?_;intro w5 hb5 hk5 hz5;have HR8:=Lib.hid (HR7.out.kept hk5 (by rintro i rfl;exact HSW.out));have HB8:=Lib.hid hb5;have HG8:=Lib.hid (hk5.blk HG1.out (by have:=HLT.out;omega));clear hb5 hk5 hz5))
     go_loopw [13] (fun i wq=>∃ j:Nat,j≤80∧i = .int .i64 j∧RefR w wq lim sm (128 * Q) cm pm hv0∧wq.heap[wo.heap.size]? = some (.cells (arr .u64 ws) 177 (0,0))∧wq.heap[wp.heap.size]? = some (.cells (arr .u64 (rounds ws hv0 j)) 172 (0,0))) (fun i _=>80 - (intOf i).toNat)
     case atStart=>exact ⟨0,Nat.zero_le _,rfl,HR8.out,HG8.out,HB8.out⟩
     clear HR7 HR8 HB8 HG8 HA8 HG1 HH
     case round =>
     obtain ⟨j,hj,rfl,hR,hw,hv⟩:=hrel
     by_cases hltj:j < 80
     ·have hvl:=rounds_len ws hv0 HHL.out j
      have x0:=blk_arr hv 0 (by omega)
      have x1:=blk_arr hv 1 (by omega)
      have x2:=blk_arr hv 2 (by omega)
      have x3:=blk_arr hv 3 (by omega)
      have x4:=blk_arr hv 4 (by omega)
      have x5:=blk_arr hv 5 (by omega)
      have x6:=blk_arr hv 6 (by omega)
      have x7:=blk_arr hv 7 (by omega)
      have xk:=hR.tab j hltj
      have xw:=blk_arr hw j (by rw [HWL.out];omega)
      have HN:Hid (∀ cs,cs=arr .u64 (rnd (K.getD j 0) (ws.getD j 0) (rounds ws hv0 j))→cs=arr .u64 (rounds ws hv0 (j+1))):=Lib.hid (by rintro cs rfl;rw [rounds_succ])
      have HV8:=Lib.hid hvl
      have HB2:=Lib.hid hw
      have HB3:=Lib.hid hv
      have HR9:=Lib.hid hR
      clear hw hv hR hvl
      unfold rnd tx ty at HN
      generalize (rounds ws hv0 j).getD 0 0=v0 at x0 HN
      generalize (rounds ws hv0 j).getD 1 0=v1 at x1 HN
      generalize (rounds ws hv0 j).getD 2 0=v2 at x2 HN
      generalize (rounds ws hv0 j).getD 3 0=v3 at x3 HN
      generalize (rounds ws hv0 j).getD 4 0=v4 at x4 HN
      generalize (rounds ws hv0 j).getD 5 0=v5 at x5 HN
      generalize (rounds ws hv0 j).getD 6 0=v6 at x6 HN
      generalize (rounds ws hv0 j).getD 7 0=v7 at x7 HN
      generalize K.getD j 0=kt at xk HN
      generalize ws.getD j 0=wt at xw HN
      go_wp2_with fail
      refine wp_region_still_lit (by kernel_rfl) (by kernel_rfl) ?_
      repeat still_step
      (refine wpStill_step (fun K hK=>?_);go_simp;refine Exists.intro _ (And.intro (sti (ror_14 _ _)) ?_);refine hK _ ?_;clear hK K)
      repeat still_step
      (refine wpStill_step (fun K hK=>?_);go_simp;refine Exists.intro _ (And.intro (sti (ror_18 _ _)) ?_);refine hK _ ?_;clear hK K)
      repeat still_step
      (refine wpStill_step (fun K hK=>?_);go_simp;refine Exists.intro _ (And.intro (sti (ror_41 _ _)) ?_);refine hK _ ?_;clear hK K)
      repeat still_step
      refine wpStill_nil ?_
      go_wp2_with fail
      have y1:wr.drew.cell? ⟨wp.heap.size,1,none⟩=some (.int .u64 v1):=x1
      have y2:wr.drew.cell? ⟨wp.heap.size,2,none⟩=some (.int .u64 v2):=x2
      have y3:wr.drew.cell? ⟨wp.heap.size,3,none⟩=some (.int .u64 v3):=x3
      have y5:wr.drew.cell? ⟨wp.heap.size,5,none⟩=some (.int .u64 v5):=x5
      have y6:wr.drew.cell? ⟨wp.heap.size,6,none⟩=some (.int .u64 v6):=x6
      have HC2:Hid (wr.drew.heap[wo.heap.size]? = some (.cells (arr .u64 ws) 177 (0,0))):=HB2
      have HC3:Hid (wr.drew.heap[wp.heap.size]? = some (.cells (arr .u64 (rounds ws hv0 j)) 172 (0,0))):=HB3
      have HR10:=Lib.hid HR9.out.drew
      clear x0 x1 x2 x3 x4 x5 x6 x7 xk xw HB2 HB3 HR9
      generalize wr.drew=w6 at y1 y2 y3 y5 y6 HC2 HC3 HR10 ⊢
      refine wp_region_still_lit (by kernel_rfl) (by kernel_rfl) ?_
      repeat still_step
      (refine wpStill_step (fun K hK=>?_);go_simp;refine Exists.intro _ (And.intro (sti (ror_28 _ _)) ?_);refine hK _ ?_;clear hK K)
      repeat still_step
      (refine wpStill_step (fun K hK=>?_);go_simp;refine Exists.intro _ (And.intro (sti (ror_34 _ _)) ?_);refine hK _ ?_;clear hK K)
      repeat still_step
      (refine wpStill_step (fun K hK=>?_);go_simp;refine Exists.intro _ (And.intro (sti (ror_39 _ _)) ?_);refine hK _ ?_;clear hK K)
      repeat still_step
      refine wpStill_nil ?_
      go_wp2_with ((with_reducible show wpList _ _ _ (Oper.mk none _ _ _ _ _ :: _) _ _);refine wpList_store8 rfl 172 _ _ rfl wp.heap.size .u64 _ 172 HC3.out rfl _ _ _ _ _ _ _ _ rfl HV8.out size8 ?_;intro w4 hb4 hk4 hz4;have HB4:=Lib.hid hb4;have HK4:=Lib.hid hk4;clear hb4 hk4 hz4)
      go_wp2_with fail
      go_roundw
      case rel =>
       refine ⟨j+1,by omega,by go_num,HR10.out.drew.kept HK4.out (by rintro i rfl;exact HSW.out),HK4.out.blk HC2.out (by have:=HLT.out;omega),?_⟩
       rw [HB4.out]
       exact congrArg (fun c=>some (Obj.cells c 172 (0,0))) (HN.out _ (congrArg (arr .u64) (list8_eq rfl rfl rfl rfl rfl rfl rfl rfl)))
      case measure=>simp [intOf];omega
     ·obtain rfl:j=80:=by omega
      obtain ⟨vv,evv⟩:∃ vv,vv=rounds ws hv0 80:=⟨_,rfl⟩
      rw [← evv] at hv
      have hcomp:sums hv0 vv 8=comp hv0 bl:=by rw [evv,HWS.out];rfl
      have hvl:vv.length=8:=by rw [evv];exact rounds_len ws hv0 HHL.out _
      have hne:w.heap.size+1≠wp.heap.size:=by have:=hR.lt3;have:=HSW.out;omega
      have HCOMP:=Lib.hid hcomp
      have HVL:=Lib.hid hvl
      have HNE:=Lib.hid hne
      have HVX:=Lib.hid hv
      have HRX:=Lib.hid hR
      clear evv hcomp hvl hne hv hR hw
      go_wp2_with fail
      go_loopw [18] (fun i wq=>∃ j8:Nat,j8≤8∧i = .int .i64 j8∧RefR w wq lim sm (128 * Q) cm pm (sums hv0 vv j8)∧wq.heap[wp.heap.size]? = some (.cells (arr .u64 vv) 172 (0,0))) (fun i _=>8 - (intOf i).toNat)
      case atStart=>exact ⟨0,Nat.zero_le _,rfl,by rw [sums_zero];exact HRX.out,HVX.out⟩
      clear HRX HVX
      case round =>
      obtain ⟨j8,hj8,rfl,hR,hv⟩:=hrel
      by_cases hl8:j8 < 8
      ·have y0:=blk_arr hR.h j8 (by rw [hR.hl];exact hl8)
       rw [sums_get hv0 vv j8 j8 (by rw [HHL.out];exact hl8) (Nat.le_refl _)] at y0
       have y1:=blk_arr hv j8 (by rw [HVL.out];exact hl8)
       have y2:=free_blk hR.h j8
       have S1:Hid (∀ x,x=add (hv0.getD j8 0) (vv.getD j8 0)→RefR w (wr.setCell ⟨w.heap.size+1,j8,none⟩ (.int .u64 x)) lim sm (128 * Q) cm pm (sums hv0 vv (j8+1))):=Lib.hid (by rintro x rfl;rw [sums_succ hv0 vv j8 (by rw [HHL.out];exact hl8)];exact hR.seth j8 _)
       have HG:=Lib.hid hv
       clear hv hR
       generalize hv0.getD j8 0=hj0 at y0 S1
       generalize vv.getD j8 0=vj at y1 S1
       go_wp2_with fail
       go_region
       go_wp2_with fail
       go_roundw
       case rel=>exact ⟨j8+1,by omega,by go_num,(S1.out _ (flat1 _ _)).drew,blk_setCell_ne HG.out _ (Ne.symm HNE.out)⟩
       case measure=>simp [intOf];omega
      ·have e8:j8=8:=by omega
       rw [e8,HCOMP.out,← HSU.out] at hR
       have HRE:=Lib.hid hR
       clear e8 hv hR
       go_wp2_with fail
       go_roundw
       case rel=>exact ⟨q+1,by omega,by go_num,HRE.out⟩
       case measure=>simp [intOf];omega
 ·obtain rfl:q=Q:=by omega
  have hend:=HEND.out
  obtain ⟨hf,ehf⟩:∃ hf,hf=hsOf pm q:=⟨_,rfl⟩
  rw [← ehf] at hR hend
  have hdl:(digest hf).length=64:=by simp [digest]
  have hfl:=hR.hl
  have hb9:(wo.alloc (.cells (arr .u8 (List.replicate 64 0)) 26)).heap[wo.heap.size]? = some (.cells (arr .u8 ((digest hf).take 0 ++ List.replicate (64 - 0) 0)) 26 (0,0)):=blk_new _ _
  have HSZ:=Lib.hid hR.sz
  have HR8:=Lib.hid (hR.alloc (.cells (arr .u8 (List.replicate 64 0)) 26))
  have HB9:=Lib.hid hb9
  have HE2:=Lib.hid hend
  have HDL:=Lib.hid hdl
  have HFL:=Lib.hid hfl
  clear hR hend ehf hdl hfl hb9 HEND HBYT
  go_wp2_with ((with_reducible refine aS 19 ?_);refine wpList_alloc_row rfl 26 rfl _ (zeroOut _) ?_)
  go_loopw [20] (fun i wr=>∃ i9:Nat,i9≤64∧i = .int .i64 i9∧wr.heap[wo.heap.size]? = some (.cells (arr .u8 ((digest hf).take i9 ++ List.replicate (64 - i9) 0)) 26 (0,0))∧RefR w wr lim sm (128 * q) cm pm hf) (fun i _=>64 - (intOf i).toNat)
  case atStart=>exact ⟨0,Nat.zero_le _,rfl,HB9.out,HR8.out⟩
  clear HB9 HR8
  case round =>
  obtain ⟨i9,hi9,rfl,hb,hR⟩:=hrel
  by_cases hlt9:i9 < 64
  ·have y0:=blk_arr hR.h (i9 / 8) (by rw [hR.hl];omega)
   have y1:=blk_arr hb i9 (by simp [HDL.out];omega)
   have y2:=free_blk hb i9
   have G1:Hid (∀ v,v=hf.getD (i9 / 8) 0 / 2 ^ (8 * (7 - i9 % 8)) % 256→(wr.setCell ⟨wo.heap.size,i9,none⟩ (.int .u8 v)).heap[wo.heap.size]? = some (.cells (arr .u8 ((digest hf).take (i9+1) ++ List.replicate (64 - (i9+1)) 0)) 26 (0,0))):=Lib.hid (by
    rintro v rfl
    rw [blk_arr_set hb,dig_set hf i9 hlt9 _ (dig_get hf i9 hlt9).symm])
   have HRS:=Lib.hid (fun v=>hR.far wo.heap.size i9 HSZ.out v)
   have e1:(56 - 8 * ((i9:Int) % 8)).toNat=8 * (7 - i9 % 8):=by omega
   have e2:0≤56 - 8 * ((i9:Int) % 8):=by omega
   have e3:56 - 8 * ((i9:Int) % 8)≤56:=by omega
   clear hb hR
   generalize hf.getD (i9 / 8) 0=x at y0 G1
   go_wp2_with fail
   clear e1 e2 e3
   go_roundw
   case rel=>exact ⟨i9+1,by omega,by go_num,G1.out _ (and255w _),HRS.out _⟩
   case measure=>simp [intOf];omega
  ·rw [show i9=64 by omega,Nat.sub_self,List.replicate_zero,List.append_nil,List.take_of_length_le (by rw [HDL.out];omega)] at hb
   have z1:(Tryd.prog.info? 26).map (·.size)=some (digest hf).length:=by rw [HDL.out];exact sizeOut
   have z2:(Tryd.prog.info? 26).map (·.size)=some (arr .u8 (digest hf)).size:=by rw [arr_size,HDL.out];exact sizeOut
   have z3:(arr .u8 (digest hf)).size=(arr .u8 (List.replicate 64 0)).size:=by rw [arr_size,arr_size,HDL.out,List.length_replicate]
   have z4:((arr .u8 (digest hf)).toList.drop 0).take (digest hf).length=(digest hf).map (Value.int .u8):=by rw [arr_toList,List.drop_zero,List.take_of_length_le (by simp)]
   have HB:=Lib.hid hb
   have HRE:=Lib.hid hR
   have ZZ1:=Lib.hid z1
   have ZZ2:=Lib.hid z2
   have ZZ3:=Lib.hid z3
   have ZZ4:=Lib.hid z4
   clear hb hR z1 z2 z3 z4
   go_wp2_with (first|((with_reducible refine aS 208 ?_);refine wpList_load_part rfl 26 _ rfl wo.heap.size 0 _ 26 (0,0) _ HB.out rfl .u8 (digest hf) ZZ4.out Tryd.underlying26 rfl ZZ1.out ?_)|((with_reducible show wpList _ _ _ (Oper.mk none _ _ _ _ _ :: _) _ _);refine wpList_store_whole rfl 26 _ _ rfl w.heap.size _ _ 26 HRE.out.res rfl rfl ZZ3.out ZZ2.out (all_arr _ _) ?_;intro w7 hb7 hk7 hz7;have HB7:=Lib.hid hb7;have HK7:=Lib.hid hk7;clear hb7 hk7 hz7))
   (try simp only [Exit.inBlock,Exit.then])
   refine bodyPost_ret (results_cell_row rfl _ _ w.heap.size 26 _ (0,0) _ rfl HB7.out Tryd.underlying26 rfl ZZ2.out) rfl ?_
   rw [HE2.out]
   exact ⟨rfl,HRE.out.below.trans (HK7.out.toBelow HRE.out.below.size (by rintro i rfl;exact Nat.le_refl _))⟩
end Go.Proofs.YtodnkallpfkdiaaDoor.Hb
