/- portcullisref1.Cursor: Raw in one; eight bytes as a number in the document's way. Condition: the cursor lies there. -/
import Derived.Test.YtodnkallpfkdiaaDoorRkA
import Derived.Test.YtodnkallpfkdiaaDoorMz
namespace Go.Proofs.YtodnkallpfkdiaaDoor.Bk
open Go.RowKit
set_option linter.unusedSimpArgs false
set_option linter.unusedVariables false
/-- Block p is the document's cursor at byte k of the bytes xs, which lie in block g from off on; it has gone wrong or not. -/
structure IsDc (w:World) (p g off c:Nat) (xs:List Int) (k:Nat) (bad:Bool):Prop where
 st:w.heap[p]? = some (.cells #[.slice (some ⟨g,off,none⟩) xs.length c, .int .i64 (k:Int), .bool bad] 108 (0,0))
 src:Src w (some ⟨g,off,none⟩) xs.length xs
 cap:xs.length≤c
 le:k≤xs.length
 ne:g≠p
theorem IsDc.kept {T:Nat→Prop} {w w':World} {p g off c:Nat} {xs:List Int} {k:Nat} {bad:Bool} (h:IsDc w p g off c xs k bad) (kk:Kept T w w') (hp:¬ T p) (hg:¬ T g):IsDc w' p g off c xs k bad :=
 ⟨kk.blk h.st hp,h.src.kept kk (fun a e => .inr (by cases e;exact hg)),h.cap,h.le,h.ne⟩
theorem IsDc.below {w w':World} {p g off c:Nat} {xs:List Int} {k:Nat} {bad:Bool} (h:IsDc w p g off c xs k bad) (kk:Below w.heap.size w w'):IsDc w' p g off c xs k bad:=h.kept (T:=fun _=>False) (Kept.of_below kk) id id
theorem IsDc.drewN {w:World} {p g off c:Nat} {xs:List Int} {k:Nat} {bad:Bool} (h:IsDc w p g off c xs k bad) (n:Nat):IsDc (w.drewN n) p g off c xs k bad:=h.kept (T:=fun _=>False) ((Kept.refl _ w).drewN n) id id
theorem draw_any (p g off c:Nat) (xs:List Int) (k:Nat) (bad:Bool) (n:Int) (w:World) (h:IsDc w p g off c xs k bad) (hl:xs.length≤1099511627776) :
  Calls Tryd.prog 66 #[.pointer (some ⟨p,0,none⟩), .int .i64 n] w fun e w'=>∃ v,e = .returned v∧Own8 w' w.heap.size v (rawV (xs.drop k) bad n)∧IsDc w' p g off c xs (k+(rawV (xs.drop k) bad n).length) (!rawOk (xs.drop k) bad n)∧Kept (· = p) w w':=by
 have hle:=h.le
 have hd:(xs.drop k).length=xs.length - k:=by simp
 have fin:∀ w',w'.heap[p]? = some (.cells #[.slice (some ⟨g,off,none⟩) xs.length c, .int .i64 (k:Int), .bool true] 108 (0,0))→Kept (· = p) w w'→IsDc w' p g off c xs k true :=
  fun w' h1 hk=>⟨h1,h.src.kept hk (fun a e => .inr (by cases e;exact h.ne)),h.cap,hle,h.ne⟩
 cases bad with
 | true =>
  refine (dbad_any p _ c xs k n w h.st ⟨by omega,by omega⟩ hl).mono ?_
  rintro e w' ⟨rfl,h1,hk⟩
  exact ⟨_,rfl,Own8.nil _ _,fin w' h1 hk,hk⟩
 | false =>
  by_cases hn:n < 0∨(0≤n∧(xs.length:Int) - (k:Int) < n)
  ·have e:rawOk (xs.drop k) false n=false:=by
    rw [← Bool.not_eq_true,rawOk_iff,hd]
    omega
   rw [rawV,e]
   rcases hn with hn|hn
   ·refine (dneg_any p _ c xs k n w h.st ⟨by omega,by omega⟩ hl hn).mono ?_
    rintro e w' ⟨rfl,h1,hk⟩
    exact ⟨_,rfl,Own8.nil _ _,fin w' h1 hk,hk⟩
   ·refine (dlong_any p _ c xs k n w h.st ⟨by omega,by omega⟩ hl hn).mono ?_
    rintro e w' ⟨rfl,h1,hk⟩
    exact ⟨_,rfl,Own8.nil _ _,fin w' h1 hk,hk⟩
  ·obtain ⟨m,rfl⟩:=Int.eq_ofNat_of_zero_le (show 0≤n by omega)
   have e:rawOk (xs.drop k) false (m:Int)=true:=rawOk_iff.2 ⟨rfl,by omega,by omega⟩
   rw [rawV,e]
   refine (dok_any p g off c k m xs w h.st h.src h.cap (by omega) hl).mono ?_
   rintro e w' ⟨v,rfl,ho,h1,hk⟩
   simp only [if_true,Int.toNat_natCast,Bool.not_true]
   rw [show k+((xs.drop k).take m).length=k+m by rw [List.length_take,hd];omega]
   exact ⟨v,rfl,ho,⟨h1,h.src.kept hk (fun a e => .inr (by cases e;exact h.ne)),h.cap,by omega,h.ne⟩,hk⟩
/-! ### Eight bytes as a number: by natural numbers -/
def natV (ys:List Int):Nat:=ys.foldl (fun u x=>u * 256+x.toNat) 0
theorem natV_snoc (ys:List Int) (j:Nat) (hj:j < ys.length):natV (ys.take (j+1))=natV (ys.take j) * 256+(ys.getD j 0).toNat:=by
 rw [take_snoc ys j 0 hj,natV,List.foldl_append]
 rfl
theorem natV_lt (ys:List Int) (hb:bytes ys):∀ j,j≤ys.length→natV (ys.take j) < 256 ^ j
 | 0,_=>by simp [natV]
 | j+1,hj=>by
  have h1:=natV_lt ys hb j (by omega)
  have h2:=bytes_at hb j
  rw [natV_snoc ys j (by omega),Nat.pow_succ]
  omega
theorem or_u64 (u x:Nat) (hu:u < 2 ^ 56) (hx:x < 256):bits .or .u64 (IntKind.u64.wrap ((u:Int) * 256)) (IntKind.u64.wrap (x:Int))=((u * 256+x:Nat):Int):=by
 have e1:IntKind.u64.wrap ((u:Int) * 256)=((u * 256:Nat):Int):=by rw [IntKind.wrap_u64];omega
 have e2:IntKind.u64.wrap (x:Int)=(x:Int):=by rw [IntKind.wrap_u64];omega
 rw [e1,e2]
 show IntKind.u64.wrap ((BitVec.ofInt 64 ((u * 256:Nat):Int) ||| BitVec.ofInt 64 (x:Int)).toNat:Int)=_
 have hy:x < 2 ^ 8:=hx
 rw [BitVec.ofInt_natCast,BitVec.ofInt_natCast,BitVec.toNat_or,BitVec.toNat_ofNat,BitVec.toNat_ofNat,Nat.mod_eq_of_lt (by omega),Nat.mod_eq_of_lt (by omega),show u * 256=2 ^ 8 * u by omega,← Nat.two_pow_add_eq_or_of_lt hy,IntKind.wrap_u64]
 omega
theorem be64_natV (ys:List Int) (hb:bytes ys):∀ j,j≤ys.length→j≤8→be64 (ys.take j)=(natV (ys.take j):Int)
 | 0,_,_=>rfl
 | j+1,hj,h8=>by
  have h1:=be64_natV ys hb j (by omega) (by omega)
  have h2:=bytes_at hb j
  have h3:=natV_lt ys hb j (by omega)
  have hu:natV (ys.take j) < 2 ^ 56:=Nat.lt_of_lt_of_le h3 (by
   have:(256:Nat) ^ j≤256 ^ 7:=Nat.pow_le_pow_right (by decide) (by omega)
   exact Nat.le_trans this (by decide))
  obtain ⟨x,hxe⟩:∃ x:Nat,ys.getD j 0=(x:Int):=⟨(ys.getD j 0).toNat,by omega⟩
  rw [be64_snoc ys j (by omega),h1,natV_snoc ys j (by omega),hxe,Int.toNat_natCast]
  exact or_u64 _ x hu (by omega)
theorem or_i64 (u x:Nat) (hx:x < 256):bits .or .i64 (wrap64 (wrap64 (u:Int) * 256)) (x:Int)=wrap64 ((u * 256+x:Nat):Int):=by
 have h8:x < 2 ^ 8:=hx
 show IntKind.i64.wrap ((BitVec.ofInt 64 (wrap64 (wrap64 (u:Int) * 256)) ||| BitVec.ofInt 64 (x:Int)).toNat:Int)=_
 have e1:BitVec.ofInt 64 (wrap64 (wrap64 (u:Int) * 256))=BitVec.ofNat 64 (u * 256 % 2 ^ 64):=by
  apply BitVec.eq_of_toNat_eq
  rw [BitVec.toNat_ofInt,BitVec.toNat_ofNat]
  unfold wrap64
  omega
 have e3:u * 256 % 2 ^ 64=2 ^ 8 * (u % 2 ^ 56):=by omega
 rw [e1,BitVec.ofInt_natCast,BitVec.toNat_or,BitVec.toNat_ofNat,BitVec.toNat_ofNat,Nat.mod_eq_of_lt (show u * 256 % 2 ^ 64 < 2 ^ 64 by omega),Nat.mod_eq_of_lt (show x < 2 ^ 64 by omega),e3,← Nat.two_pow_add_eq_or_of_lt h8,IntKind.wrap_i64]
 unfold wrap64
 omega
theorem intV_natV (xs:List Int) (hb:bytes xs) (bad:Bool):intV xs bad=wrap64 (natV (rawV xs bad 8):Int):=by
 have h8:(rawV xs bad 8).length≤8:=by unfold rawV;split <;> simp <;> omega
 have hr:bytes (rawV xs bad 8):=by
  unfold rawV
  split
  ·exact fun x hx=>hb x (List.mem_of_mem_take hx)
  ·exact fun x hx=>absurd hx (by simp)
 have:=be64_natV (rawV xs bad 8) hr _ (Nat.le_refl _) h8
 rw [List.take_length] at this
 rw [intV,this]
theorem dint_of (p:Nat) (zs:List Int) (bad:Bool) (R:World→Prop) (w:World) (hxd:bytes zs) (HR0:Calls Tryd.prog 66 #[.pointer (some ⟨p,0,none⟩), .int .i64 8] w fun e w'=>∃ v,e = .returned v∧Own8 w' w.heap.size v (rawV zs bad 8)∧R w'∧Kept (· = p) w w') :
  Calls Tryd.prog 67 #[.pointer (some ⟨p,0,none⟩)] w fun e w'=>e = .returned (.int .i64 (intV zs bad))∧R w'∧Kept (· = p) w w':=by
 have HR:=Lib.hid HR0
 have HV:=Lib.hid (intV_natV zs hxd bad)
 have h8:(rawV zs bad 8).length≤8:=by unfold rawV;split <;> simp <;> omega
 have hyb:bytes (rawV zs bad 8):=by
  unfold rawV
  split
  ·exact fun x hx=>hxd x (List.mem_of_mem_take hx)
  ·exact fun x hx=>absurd hx (by simp)
 have HYB:=Lib.hid hyb
 clear HR0 hxd hyb
 generalize intV zs bad=iv at HV
 generalize rawV zs bad 8=ys at HR HV h8 HYB
 go_enter Tryd.func67, Tryd.ntmps67
 go_upto_region 2 with (go_at_call 66; refine HR.out.mono ?_;rintro e w1 ⟨v1,rfl,ho1,hc1,hk1⟩;have HC1:=Lib.hid (And.intro hc1 hk1);obtain ⟨s1,c1,rfl,hcc,hm1,hs1, -⟩:=ho1.form;have HS1:=Lib.hid hs1;clear hc1 hk1 ho1 hs1 hm1)
 go_wp2_with fail
 generalize hln:ys.length=ln
 have HLN:=Lib.hid hln
 rw [hln] at HS1
 rw [hln] at h8
 clear hln hcc
 go_loopw [4,5] (fun u i wr=>∃ j:Nat,j≤ln∧i = .int .i64 j∧u = .int .i64 (wrap64 (natV (ys.take j):Int))∧wr=w1) (fun _ i _=>ln - (intOf i).toNat)
 case atStart=>exact ⟨0,Nat.zero_le _,rfl,by rw [List.take_zero,show natV []=0 from rfl,show wrap64 ((0:Nat):Int)=0 by simp [wrap64]],rfl⟩
 case round =>
  obtain ⟨j,hj,rfl,rfl,rfl⟩:=hrel
  by_cases hlt:j < ln
  ·obtain ⟨a,rfl,x0⟩:=HS1.out.cell j hlt
   have hs:=natV_snoc ys j (by rw [HLN.out];exact hlt)
   have hb:=bytes_at HYB.out j
   obtain ⟨x,hxe⟩:∃ x:Nat,ys.getD j 0=(x:Int):=⟨(ys.getD j 0).toNat,by omega⟩
   rw [hxe] at x0 hb hs
   rw [Int.toNat_natCast] at hs
   generalize hU:natV (ys.take j)=U at hs
   have HO:=Lib.hid (or_i64 U x (by omega))
   have HS:=Lib.hid hs
   obtain ⟨u,hu⟩:∃ u,u=wrap64 (U:Int):=⟨_,rfl⟩
   rw [← hu] at HO ⊢
   clear hs hxe hU hu
   go_wp2_with fail
   go_roundw
   case rel=>exact ⟨j+1,by omega,by go_num,by rw [HS.out,← HO.out],trivial⟩
   case measure=>simp [intOf];omega
  ·have e:ys.take j=ys:=List.take_of_length_le (by rw [HLN.out];omega)
   rw [e]
   have hv:=HV.out
   generalize wrap64 (natV ys:Int)=u at hv
   subst hv
   clear HV
   go_wp2_with fail
   go_ret
   exact ⟨rfl,HC1.out⟩
theorem dint_any (p g off c:Nat) (xs:List Int) (k:Nat) (bad:Bool) (w:World) (h:IsDc w p g off c xs k bad) (hl:xs.length≤1099511627776) (hx:bytes xs) :
  Calls Tryd.prog 67 #[.pointer (some ⟨p,0,none⟩)] w fun e w'=>e = .returned (.int .i64 (intV (xs.drop k) bad))∧IsDc w' p g off c xs (k+(rawV (xs.drop k) bad 8).length) (!rawOk (xs.drop k) bad 8)∧Kept (· = p) w w' :=
 dint_of p (xs.drop k) bad _ w (fun x hx'=>hx x (List.mem_of_mem_drop hx')) (draw_any p g off c xs k bad 8 w h hl)
end Go.Proofs.YtodnkallpfkdiaaDoor.Bk
