/- The plain words of the curve are the group: sums, multiples, bytes. No program here; no condition. -/
import Derived.Test.YtodnkallpfkdiaaDoorFa
import Derived.Test.YtodnkallpfkdiaaDoorFie
import Derived.Test.YtodnkallpfkdiaaDoorEdm
set_option maxRecDepth 100000
set_option maxHeartbeats 16000000
set_option linter.unusedSimpArgs false
set_option linter.unusedVariables false
namespace Go.Proofs.YtodnkallpfkdiaaDoor.Ed
open Go.RowKit Lm Fp Cu Pri
theorem p_is:Fp.p=P0:=rfl
theorem to_fadd (x y:Nat):toK (fadd x y)=toK x+toK y:=by rw [fadd,p_is,to_mod,to_add]
theorem to_fmul (x y:Nat):toK (fmul x y)=toK x * toK y:=by rw [fmul,p_is,to_mod,to_mul]
theorem to_fsub (x:Nat) {y:Nat} (h:y < Fp.p):toK (fsub x y)=toK x - toK y:=by rw [fsub,p_is,to_mod,to_sub h]
/-- A point's numbers stand for a pair. -/
structure Is (P:Pt) (A:K×K):Prop where
 ok:P.Ok
 ext:Ext (toK P.x) (toK P.y) (toK P.z) (toK P.t) A
abbrev add (A B:K×K):K×K:=eadd (toK D0) inv A B
abbrev on (A:K×K):Prop:=OnP (toK D0) A
abbrev tm (A:K×K) (k:Nat):K×K:=times (toK D0) inv A k
theorem d_is:dd=D0:=rfl
theorem Is.add {P Q:Pt} {A B:K×K} (hP:Is P A) (hQ:Is Q B) (hA:on A) (hB:on B):Is (Cu.eadd P Q) (add A B):=by
 refine ⟨eadd_ok P Q,?_⟩
 have h:=Ext.add fld inv_ok hA hB hP.ext hQ.ext rfl rfl rfl rfl
 simp only [Cu.eadd,to_fmul,to_fadd,to_fsub _ (fmul_lt _ _),to_fsub _ hP.ok.x,to_fsub _ hQ.ok.x,d_is]
 exact h
theorem Is.nought:Is nought (0,1):=⟨nought_ok,⟨by decide +kernel,by decide +kernel,by decide +kernel,by decide +kernel⟩⟩
theorem Is.mul {P:Pt} {A:K×K} (hP:Is P A) (hA:on A) (k:Nat) (hk:k < 2 ^ 256):∀ n,n≤256→Is (emul P k n) (tm A (k / 2 ^ (256 - n)))
 | 0,_=>by
  rw [Nat.sub_zero,Nat.div_eq_of_lt hk]
  exact Is.nought
 | n+1,hn=>by
  have ih:=Is.mul hP hA k hk n (by omega)
  have ho:=on_times fld inv_ok hA (k / 2 ^ (256 - n))
  have h2:=ih.add ih ho ho
  have h1:256 - n=(255 - n)+1:=by omega
  have h3:k / 2 ^ (256 - n)=k / 2 ^ (255 - n) / 2:=by rw [h1,Nat.pow_succ,Nat.div_div_eq_div_mul]
  rw [show 256 - (n+1)=255 - n by omega]
  rw [show Ed.add (tm A (k / 2 ^ (256 - n))) (tm A (k / 2 ^ (256 - n)))=tm A (k / 2 ^ (256 - n)+k / 2 ^ (256 - n)) from (times_add fld inv_ok hA _ _).symm,h3] at h2
  unfold emul
  split
  ·rename_i hb
   have e:k / 2 ^ (255 - n)=k / 2 ^ (255 - n) / 2+k / 2 ^ (255 - n) / 2+1:=by omega
   rw [e]
   exact h2.add hP (on_times fld inv_ok hA _) hA
  ·rename_i hb
   have e:k / 2 ^ (255 - n)=k / 2 ^ (255 - n) / 2+k / 2 ^ (255 - n) / 2:=by omega
   rw [e]
   exact h2
theorem Is.mul_full {P:Pt} {A:K×K} (hP:Is P A) (hA:on A) (k:Nat) (hk:k < 2 ^ 256):Is (emul P k 256) (tm A k):=by
 have h:=hP.mul hA k hk 256 (Nat.le_refl _)
 rwa [show 256 - 256=0 from rfl,Nat.pow_zero,Nat.div_one] at h
/-- The base. -/
def B0:K×K:=(toK bx,toK bY)
theorem Is.base:Is base B0:=⟨base_ok,⟨by decide +kernel,by decide +kernel,by decide +kernel,by decide +kernel⟩⟩
theorem on_base:on B0:=by
 show toK bY * toK bY=toK bx * toK bx+1+toK D0 * (toK bx * toK bx) * (toK bY * toK bY)
 decide +kernel
theorem Ext.zero {x y z t:K} {A:K×K} (h:Ext x y z t A) (hx:x=0) (hy:y=z):A=(0,1):=by
 have h1:A.1 * z=0:=by rw [← h.ex,hx]
 have h2:(A.2 - 1) * z=0:=by
  have:=h.ey
  rw [hy] at this
  grind
 refine Prod.ext ((int h1).resolve_right h.ez) ?_
 have:=(int h2).resolve_right h.ez
 show A.2=1
 grind
theorem base_q:tm B0 Sc.q=(0,1):=by
 have h:=Is.base.mul_full on_base Sc.q (by decide +kernel)
 have e:(emul base Sc.q 256).x=0∧(emul base Sc.q 256).y=(emul base Sc.q 256).z:=by decide +kernel
 exact h.ext.zero (by rw [e.1];rfl) (by rw [e.2])
/-- The base's multiples go by the rest. -/
theorem base_mod (k:Nat):tm B0 (k % Sc.q)=tm B0 k:=times_mod fld inv_ok on_base base_q k
end Go.Proofs.YtodnkallpfkdiaaDoor.Ed
