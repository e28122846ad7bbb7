/- Strings of bytes are alike just where the bytes are. Condition: as each theorem says. -/
import Derived.Test.YtodnkallpfkdiaaDoorMa
import Derived.ScopeJumps
import Derived.WalkMore
import Derived.Deep.DeepCutAuto
import Derived.Test.YtodnkallpfkdiaaDoorMx
namespace Go.Proofs.YtodnkallpfkdiaaDoor.Sm
open Go.RowKit
theorem str_inj:∀ (xs ys:List Int),bytes xs→bytes ys→strOfNums xs=strOfNums ys→xs=ys:=by
 intro xs ys hx hy h
 have h2:(strOfNums xs).data.toList=(strOfNums ys).data.toList:=by rw [h]
 rw [strOfNums_data,strOfNums_data] at h2
 have hl:xs.length=ys.length:=by have:=congrArg List.length h2;simpa using this
 apply List.ext_getElem hl
 intro i h1 h3
 have e:=congrArg (fun l=>l[i]?) h2
 simp only [List.getElem?_map,List.getElem?_eq_getElem h1,List.getElem?_eq_getElem h3,Option.map_some,Option.some.injEq] at e
 have b1:=hx xs[i] (List.getElem_mem h1)
 have b2:=hy ys[i] (List.getElem_mem h3)
 have e2:=congrArg UInt8.toNat e
 rw [UInt8.toNat_ofNat',UInt8.toNat_ofNat'] at e2
 omega
theorem str_eq (xs ys:List Int) (hx:bytes xs) (hy:bytes ys):((strOfNums xs).toList == (strOfNums ys).toList)=decide (xs=ys):=by
 by_cases h:xs=ys
 ·rw [h,decide_eq_true rfl,beq_iff_eq]
 ·rw [decide_eq_false h,beq_eq_false_iff_ne]
  intro e
  apply h
  apply str_inj xs ys hx hy
  rw [ByteArray.toList_eq,ByteArray.toList_eq] at e
  exact ByteArray.ext (Array.toList_inj.1 e)
end Go.Proofs.YtodnkallpfkdiaaDoor.Sm
namespace Go.Proofs.YtodnkallpfkdiaaDoor
open Go.RowKit
theorem wp_scope_fwd {P:Program} {a:Act} {w:World} {Q:Exit→Act→World→Prop} {c rest:Code} (l:Nat) (hf:findLabel c l=some rest)
  (h:c.wp P (Exit.jump l (fun a w=>rest.wp P (Exit.noGoto Q) a w) Q) a w):(Code.scope c).wp P Q a w:=by
 refine wp_scope_jumps l (fun a w=>rest.wp P (Exit.noGoto Q) a w) (fun _ _=>0) hf h (fun a w hJ=>Code.wp_mono (fun e a w q=>?_) hJ)
 cases e <;> first|exact q|exact q.elim
theorem jump_ret {l:Nat} {J:Act→World→Prop} {Q:Exit→Act→World→Prop} {a:Act} {w:World}:Exit.jump l J Q .ret a w=Q .ret a w:=rfl
theorem jump_goto {l:Nat} {J:Act→World→Prop} {Q:Exit→Act→World→Prop} {a:Act} {w:World}:Exit.jump l J Q (.goto l) a w=(l=l∧J a w):=rfl
end Go.Proofs.YtodnkallpfkdiaaDoor
namespace Go.Proofs.YtodnkallpfkdiaaDoor
open Go.RowKit
set_option linter.unusedSimpArgs false
set_option linter.unusedVariables false
/-- Block p is a cursor before the bytes xs, which lie in block q; it has gone wrong or not. -/
structure IsCur (w:World) (p q:Nat) (xs:List Int) (bad:Bool):Prop where
 st:∃ sa c,w.heap[p]? = some (.cells #[.slice sa xs.length c, .bool bad] 122 (0,0))∧Src w sa xs.length xs∧xs.length≤c∧(sa=none→c=0)∧(∀ a,sa=some a→a.block=q)
 ne:p≠q
 lt:p < w.heap.size
theorem IsCur.kept {T:Nat→Prop} {w w':World} {p q:Nat} {xs:List Int} {bad:Bool} (h:IsCur w p q xs bad) (k:Kept T w w') (hp:¬ T p) (hq:¬ T q):IsCur w' p q xs bad:=by
 obtain ⟨⟨sa,c,h1,h2,h3,h4,h5⟩,h6,h7⟩:=h
 exact ⟨⟨sa,c,k.blk h1 hp,h2.kept k (fun a e => .inr (by rw [h5 a e];exact hq)),h3,h4,h5⟩,h6,Nat.lt_of_lt_of_le h7 k.size⟩
theorem IsCur.below {w w':World} {p q:Nat} {xs:List Int} {bad:Bool} (h:IsCur w p q xs bad) (k:Below w.heap.size w w'):IsCur w' p q xs bad:=h.kept (T:=fun _=>False) (Kept.of_below k) id id
theorem IsCur.drewN {w:World} {p q:Nat} {xs:List Int} {bad:Bool} (h:IsCur w p q xs bad) (n:Nat):IsCur (w.drewN n) p q xs bad:=h.kept (T:=fun _=>False) ((Kept.refl _ w).drewN n) id id
theorem cnew_any (sa:Option Addr) (n c:Nat) (xs:List Int) (w:World) (hs:Src w sa n xs) (hn:n≤1099511627776) :
  Calls Tryd.prog 40 #[.slice sa n c] w fun e w'=>∃ p q,e = .returned (.pointer (some ⟨p,0,none⟩))∧IsCur w' p q xs false∧w.heap.size≤p∧w.heap.size≤q∧Below w.heap.size w w':=by
 have HC:=Lib.hid (clone_all sa n c xs w hs hn)
 clear hs hn
 go_enter Tryd.func40, Tryd.ntmps40
 go_wp2_with (go_at_call 77; refine HC.out.mono ?_;rintro e w1 ⟨v1,rfl,ho1,hb1⟩;obtain ⟨s1,c1,rfl,hc1,hm1,hs1,hq1⟩:=ho1.form)
 go_ret
 have hb2:=hb1.alloc hb1.size (.cells #[.slice s1 xs.length c1, .bool false] 122)
 have hs2:Src (w1.alloc (.cells #[.slice s1 xs.length c1, .bool false] 122)) s1 xs.length xs:=hs1.below ((Below.refl _ w1).alloc (Nat.le_refl _) _)
 rcases hq1 with ⟨rfl,rfl,rfl⟩|⟨g,rfl,hg1,hg2⟩
 ·exact ⟨_,w1.heap.size+1,rfl,⟨⟨none,0,blk_new w1 _,hs2,Nat.le_refl _,fun _=>rfl,fun a e=>(by cases e)⟩,by omega,by simp⟩,hb1.size,by have:=hb1.size;omega,hb2⟩
 ·exact ⟨_,g,rfl,⟨⟨_,c1,blk_new w1 _,hs2,hc1,fun e=>(by cases e),fun a e=>(by cases e;rfl)⟩,by omega,by simp⟩,hb1.size,hg1,hb2⟩
/-- What a read of n bytes answers and leaves. -/
def rawOk (xs:List Int) (bad:Bool) (n:Int):Bool := !bad && decide (0≤n) && decide (n≤xs.length)
def rawV (xs:List Int) (bad:Bool) (n:Int):List Int:=if rawOk xs bad n then xs.take n.toNat else []
def rawS (xs:List Int) (bad:Bool) (n:Int):List Int:=if rawOk xs bad n then xs.drop n.toNat else (if bad then xs else [])
theorem rawOk_iff {xs:List Int} {bad:Bool} {n:Int}:rawOk xs bad n=true↔bad=false∧0≤n∧n≤xs.length:=by
 simp [rawOk,and_assoc]
theorem craw_was (p q:Nat) (xs:List Int) (n:Int) (w:World) (h:IsCur w p q xs true) :
  Calls Tryd.prog 41 #[.pointer (some ⟨p,0,none⟩), .int .i64 n] w fun e w'=>e = .returned (.slice none 0 0)∧w=w':=by
 obtain ⟨⟨sa,c,h1,h2,h3,h4,h5⟩,h6,h7⟩:=h
 have c1:w.cell? ⟨p,1,none⟩=some (.bool true):=cell_blk h1 1
 clear h1 h2 h3 h4 h5
 go_enter Tryd.func41, Tryd.ntmps41
 go_wp2
 go_step3
 go_wp2
 rw [Exit.noGoto_ret]
 go_ret
 exact ⟨rfl,rfl⟩
theorem craw_no (p q:Nat) (xs:List Int) (n:Int) (w:World) (h:IsCur w p q xs false) (hn:n < 0∨(0≤n∧(xs.length:Int) < n)) :
  Calls Tryd.prog 41 #[.pointer (some ⟨p,0,none⟩), .int .i64 n] w fun e w'=>e = .returned (.slice none 0 0)∧IsCur w' p q [] true∧Kept (· = p) w w'∧w'.heap.size=w.heap.size:=by
 obtain ⟨⟨sa,c,h1,h2,h3,h4,h5⟩,h6,h7⟩:=h
 have c0:w.cell? ⟨p,0,none⟩=some (.slice sa xs.length c):=cell_blk h1 0
 have c1:w.cell? ⟨p,1,none⟩=some (.bool false):=cell_blk h1 1
 have f0:=free_blk h1 0
 have f1:=free_blk h1 1
 have fin:∀ w',w'=(w.setCell ⟨p,0,none⟩ (.slice none 0 0)).setCell ⟨p,1,none⟩ (.bool true)→IsCur w' p q [] true∧Kept (· = p) w w'∧w'.heap.size=w.heap.size:=by
  rintro w' rfl
  refine ⟨⟨⟨none,0,by rw [blk_setCell (blk_setCell h1 _)];simp,⟨rfl,fun i hi=>absurd hi (Nat.not_lt_zero _)⟩,Nat.le_refl _,fun _=>rfl,fun a e=>(by cases e)⟩,h6,by simpa [World.setCell] using h7⟩,((Kept.refl _ _).at _ _).at _ _,by simp [World.setCell]⟩
 have FIN:=Lib.hid fin
 clear fin h1 h2 h3 h4 h5
 rcases hn with h0|⟨h0,h00⟩
 all_goals
  go_enter Tryd.func41, Tryd.ntmps41
  go_wp2
  refine wp_scope_fwd 0 rfl ?_
  go_wp2
  go_step3
  refine ⟨rfl,?_⟩
  go_wp2
  (try rw [Exit.noGoto_ret])
  go_ret
  exact ⟨rfl,FIN.out _ rfl⟩
theorem craw_ok (p q:Nat) (xs:List Int) (n:Nat) (w:World) (h:IsCur w p q xs false) (hn:n≤xs.length) (hl:xs.length≤1099511627776) :
  Calls Tryd.prog 41 #[.pointer (some ⟨p,0,none⟩), .int .i64 n] w fun e w'=>∃ v,e = .returned v∧Own8 w' w.heap.size v (xs.take n)∧IsCur w' p q (xs.drop n) false∧Kept (· = p) w w':=by
 obtain ⟨⟨sa,c,h1,h2,h3,h4,h5⟩,h6,h7⟩:=h
 have c0:w.cell? ⟨p,0,none⟩=some (.slice sa xs.length c):=cell_blk h1 0
 have c1:w.cell? ⟨p,1,none⟩=some (.bool false):=cell_blk h1 1
 have hcl:=fun c'=>clone_all sa n c' (xs.take n) w (h2.take n hn) (by omega)
 cases sa with
 | none =>
  have hc:=h4 rfl
  have hx:xs=[]:=List.eq_nil_of_length_eq_zero (by omega)
  subst hx hc
  obtain rfl:n=0:=by simpa using hn
  have fin:∀ w1 v,Own8 w1 w.heap.size v []→Below w.heap.size w w1→w1.heap[p]? = some (.cells #[.slice none 0 0, .bool false] 122 (0,0))∧∀ w',w'=w1.setCell ⟨p,0,none⟩ (.slice none 0 0)→Own8 w' w.heap.size v []∧IsCur w' p q [] false∧Kept (· = p) w w':=by
   intro w1 v ho hb
   have hp:=Below.blk hb h1 h7
   refine ⟨hp,?_⟩
   rintro w' rfl
   exact ⟨ho.kept ((Kept.refl (· = p) w1).at 0 _) (fun g e=>by have:=ho.lt g e;omega),⟨⟨none,0,by rw [blk_setCell hp];simp,⟨rfl,fun i hi=>absurd hi (Nat.not_lt_zero _)⟩,Nat.le_refl _,fun _=>rfl,fun a e=>(by cases e)⟩,h6,by have:=hb.size;simp [World.setCell];omega⟩,(Kept.of_below hb).at 0 _⟩
  have FIN:=Lib.hid fin
  have HCL:=Lib.hid hcl
  clear fin h1 h2 h3 h4 h5 hcl
  go_enter Tryd.func41, Tryd.ntmps41
  go_wp2
  go_step3
  go_wp2_with (go_at_call 77; refine (HCL.out _).mono ?_;rintro e w1 ⟨v1,rfl,ho1,hb1⟩;obtain ⟨p1,p2⟩:=FIN.out w1 v1 ho1 hb1;have d0:w1.cell? ⟨p,0,none⟩=some (.slice none 0 0):=cell_blk p1 0;have d1:=free_blk p1 0;have P2:=Lib.hid p2;clear p1 p2 ho1 hb1)
  (try rw [Exit.noGoto_ret])
  go_ret
  exact ⟨_,rfl,P2.out _ rfl⟩
 | some ad =>
  have hq:=h5 ad rfl
  have fin:∀ w1 v,Own8 w1 w.heap.size v (xs.take n)→Below w.heap.size w w1→w1.heap[p]? = some (.cells #[.slice (some ad) xs.length c, .bool false] 122 (0,0))∧∀ w' y m k,y=(if c=n then some ad else some (ad.add n))→m=xs.length - n→k=c - n→w'=w1.setCell ⟨p,0,none⟩ (.slice y m k)→Own8 w' w.heap.size v (xs.take n)∧IsCur w' p q (xs.drop n) false∧Kept (· = p) w w':=by
   intro w1 v ho hb
   have hp:=Below.blk hb h1 h7
   refine ⟨hp,?_⟩
   rintro w' y m k rfl rfl rfl rfl
   have hk:Kept (· = p) w (w1.setCell ⟨p,0,none⟩ (.slice (if c=n then some ad else some (ad.add n)) (xs.length - n) (c - n))):=(Kept.of_below hb).at 0 _
   have hs1:=h2.kept hk (fun a e => .inr (by cases e;rw [hq];exact fun e=>h6 e.symm))
   have hs2:Src (w1.setCell ⟨p,0,none⟩ (.slice (if c=n then some ad else some (ad.add n)) (xs.length - n) (c - n))) (if c=n then some ad else some (ad.add n)) (xs.length - n) (xs.drop n):=by
    by_cases e:c=n
    ·have hz:xs.length - n=0:=by omega
     rw [hz,List.drop_eq_nil_of_le (by omega)]
     exact ⟨rfl,fun i hi=>absurd hi (Nat.not_lt_zero _)⟩
    ·rw [if_neg e] at hs1 ⊢
     have:=hs1.part n (xs.length - n) (by omega)
     rwa [List.take_of_length_le (by simp)] at this
   refine ⟨ho.kept ((Kept.refl (· = p) w1).at 0 _) (fun g e=>by have:=ho.lt g e;omega),⟨⟨if c=n then some ad else some (ad.add n),c - n,by rw [blk_setCell hp];simp,by rw [List.length_drop];exact hs2,by rw [List.length_drop];omega,fun e=>(by split at e <;> cases e),fun a e=>?_⟩,h6,by have:=hb.size;simp [World.setCell];omega⟩,hk⟩
   split at e
   ·cases e;exact hq
   ·cases e;rw [block_add];exact hq
  have HCL:=Lib.hid hcl
  have FIN:=Lib.hid fin
  have h8:¬ (n:Int) < 0:=by omega
  have h9:¬ (xs.length:Int) < (n:Int):=by omega
  have h10:¬ (c:Int) < (n:Int):=by omega
  clear fin h1 h2 h4 h5 hcl hq
  generalize xs.length=L at c0 FIN h9 h3 hn
  go_enter Tryd.func41, Tryd.ntmps41
  go_wp2
  go_step3
  go_wp2_with (go_at_call 77; refine (HCL.out _).mono ?_;rintro e w1 ⟨v1,rfl,ho1,hb1⟩;obtain ⟨p1,p2⟩:=FIN.out w1 v1 ho1 hb1;have d0:w1.cell? ⟨p,0,none⟩=some (.slice (some ad) L c):=cell_blk p1 0;have d1:=free_blk p1 0;have P2:=Lib.hid p2;clear p1 p2 ho1 hb1)
  all_goals
   (try rw [Exit.noGoto_ret])
   go_ret
   exact ⟨_,rfl,P2.out _ _ _ _ (by simp_all) rfl (by omega) rfl⟩
end Go.Proofs.YtodnkallpfkdiaaDoor
namespace Go.Proofs.YtodnkallpfkdiaaDoor
open Go.RowKit
set_option linter.unusedSimpArgs false
set_option linter.unusedVariables false
theorem craw_any (p q:Nat) (xs:List Int) (bad:Bool) (n:Int) (w:World) (h:IsCur w p q xs bad) (hl:xs.length≤1099511627776) :
  Calls Tryd.prog 41 #[.pointer (some ⟨p,0,none⟩), .int .i64 n] w fun e w'=>∃ v,e = .returned v∧Own8 w' w.heap.size v (rawV xs bad n)∧IsCur w' p q (rawS xs bad n) (!rawOk xs bad n)∧Kept (· = p) w w':=by
 cases bad with
 | true =>
  refine (craw_was p q xs n w h).mono ?_
  rintro e w' ⟨rfl,rfl⟩
  exact ⟨_,rfl,Own8.nil _ _,h,Kept.refl _ _⟩
 | false =>
  by_cases hn:n < 0∨(0≤n∧(xs.length:Int) < n)
  ·have e:rawOk xs false n=false:=by
    rw [← Bool.not_eq_true,rawOk_iff]
    omega
   refine (craw_no p q xs n w h hn).mono ?_
   rintro e' w' ⟨rfl,hc,hk, -⟩
   refine ⟨_,rfl,?_,?_,hk⟩
   ·rw [rawV,e];exact Own8.nil _ _
   ·rw [rawS,e];exact hc
  ·obtain ⟨k,rfl⟩:=Int.eq_ofNat_of_zero_le (show 0≤n by omega)
   have e:rawOk xs false (k:Int)=true:=rawOk_iff.2 ⟨rfl,by omega,by omega⟩
   refine (craw_ok p q xs k w h (by omega) hl).mono ?_
   rintro e' w' ⟨v,rfl,ho,hc,hk⟩
   refine ⟨_,rfl,?_,?_,hk⟩
   ·rw [rawV,e];exact ho
   ·rw [rawS,e];exact hc
/-- Eight bytes as a number, the highest first. -/
def be64 (ys:List Int):Int:=ys.foldl (fun u x=>bits .or .u64 (IntKind.u64.wrap (u * 256)) (IntKind.u64.wrap x)) 0
def intV (xs:List Int) (bad:Bool):Int:=wrap64 (be64 (rawV xs bad 8))
theorem be64_snoc (ys:List Int) (j:Nat) (hj:j < ys.length):be64 (ys.take (j+1))=bits .or .u64 (IntKind.u64.wrap (be64 (ys.take j) * 256)) (IntKind.u64.wrap (ys.getD j 0)):=by
 rw [take_snoc ys j 0 hj,be64,List.foldl_append]
 rfl
theorem cint_any (p q:Nat) (xs:List Int) (bad:Bool) (w:World) (h:IsCur w p q xs bad) (hl:xs.length≤1099511627776) :
  Calls Tryd.prog 42 #[.pointer (some ⟨p,0,none⟩)] w fun e w'=>e = .returned (.int .i64 (intV xs bad))∧IsCur w' p q (rawS xs bad 8) (!rawOk xs bad 8)∧Kept (· = p) w w':=by
 have HR:=Lib.hid (craw_any p q xs bad 8 w h hl)
 have HV:Hid (intV xs bad=wrap64 (be64 (rawV xs bad 8))):=Lib.hid rfl
 have h8:(rawV xs bad 8).length≤8:=by unfold rawV;split <;> simp <;> omega
 clear h hl
 generalize intV xs bad=iv at HV
 generalize rawV xs bad 8=ys at HR HV h8
 go_enter Tryd.func42, Tryd.ntmps42
 go_upto_region 2 with fail
 go_wp2_with (go_at_call 41; refine HR.out.mono ?_;rintro e w1 ⟨v1,rfl,ho1,hc1,hk1⟩;have HC1:=Lib.hid (And.intro hc1 hk1);obtain ⟨s1,c1,rfl,hcc,hm1,hs1, -⟩:=ho1.form;have HS1:=Lib.hid hs1;clear hc1 hk1 ho1 hs1 hm1)
 generalize hln:ys.length=ln
 have HLN:=Lib.hid hln
 rw [hln] at HS1
 rw [hln] at h8
 clear hln hcc
 go_loopw [3,9] (fun u i wr=>∃ j:Nat,j≤ln∧i = .int .i64 j∧u = .int .u64 (be64 (ys.take j))∧wr=w1) (fun _ i _=>ln - (intOf i).toNat)
 case atStart=>exact ⟨0,Nat.zero_le _,rfl,rfl,rfl⟩
 case round =>
  obtain ⟨j,hj,rfl,rfl,rfl⟩:=hrel
  by_cases hlt:j < ln
  ·obtain ⟨a,rfl,x0⟩:=HS1.out.cell j hlt
   have HB:=Lib.hid (be64_snoc ys j (by rw [HLN.out];exact hlt))
   generalize be64 (ys.take j)=u at HB
   generalize ys.getD j 0=x at HB x0
   go_wp2_with fail
   go_roundw
   case rel=>exact ⟨j+1,by omega,by go_num,by rw [HB.out],trivial⟩
   case measure=>simp [intOf];omega
  ·have e:ys.take j=ys:=List.take_of_length_le (by rw [HLN.out];omega)
   rw [e]
   have hv:=HV.out
   generalize be64 ys=u at hv
   subst hv
   clear HV
   go_wp2_with fail
   go_ret
   exact ⟨rfl,HC1.out⟩
end Go.Proofs.YtodnkallpfkdiaaDoor
