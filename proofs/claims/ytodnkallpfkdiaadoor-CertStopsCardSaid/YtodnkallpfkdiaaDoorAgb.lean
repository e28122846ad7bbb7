/- A point's bytes are read back as that point. No program here; no condition. -/
import Derived.Test.YtodnkallpfkdiaaDoorAgr
namespace Go.Proofs.YtodnkallpfkdiaaDoor.Ed
open Go.RowKit Lm Fp Cu Pri
theorem fpow_pw (a e:Nat):∀ n,fpow a e n=pw P0 a e n
 | 0=>rfl
 | n+1=>by
  unfold fpow pw
  rw [fpow_pw a e n]
  rfl
theorem toK_fpow (a e:Nat) (he:e < 2 ^ 256):toK (fpow a e 256)=toK (a ^ e):=by
 rw [fpow_pw,to_eq,pw_full P0 a e he]
theorem toK_finv (a:Nat):toK (finv a)=inv (toK a):=by
 unfold finv inv
 rw [toK_fpow _ _ (by decide +kernel),to_eq,to_val,p_is,← Nat.pow_mod]
theorem toK_lt {x y:Nat} (hx:x < Fp.p) (hy:y < Fp.p) (h:toK x=toK y):x=y:=by
 rw [to_eq,← p_is,Nat.mod_eq_of_lt hx,Nat.mod_eq_of_lt hy] at h
 exact h
theorem toK_is {x:Nat} (hx:x < Fp.p) {a:K} (h:toK x=a):x=a.val:=by
 rw [← h,to_val,← p_is,Nat.mod_eq_of_lt hx]
theorem mul_inv (a z:K) (hz:z≠0):a * z * inv z=a:=by
 have:=inv_ok z hz
 grind
theorem Is.bytes {P:Pt} {A:K×K} (h:Is P A):ebytes P=A.2.val+2 ^ 255 * (A.1.val % 2):=by
 have e1:fmul P.y (finv P.z)=A.2.val:=toK_is (fmul_lt _ _) (by rw [to_fmul,toK_finv,h.ext.ey];exact mul_inv _ _ h.ext.ez)
 have e2:fmul P.x (finv P.z)=A.1.val:=toK_is (fmul_lt _ _) (by rw [to_fmul,toK_finv,h.ext.ex];exact mul_inv _ _ h.ext.ez)
 unfold ebytes
 rw [e1,e2]
theorem pm_one {t:K} (h:t * t=1):t=1∨t = -1:=by
 have h1:(t - 1) * (t+1)=0:=by grind
 rcases int h1 with h2|h2
 ·left;grind
 ·right;grind
theorem pm {r x:K} (h:r * r=x * x):r=x∨r = -x:=by
 have h1:(r - x) * (r+x)=0:=by grind
 rcases int h1 with h2|h2
 ·left;grind
 ·right;grind
theorem im_k:toK im * toK im = -1:=by decide +kernel
/-- The root of a square is found. -/
theorem root_k {s:Nat} (hs:s < Fp.p) {X:K} (h:toK s=X * X):(fsqrt s).2=true∧toK (fsqrt s).1 * toK (fsqrt s).1=X * X∧(fsqrt s).1 % 2=0∧(fsqrt s).1 < Fp.p:=by
 have hT:∃ T:K,toK (fpow s eighth 256) * toK (fpow s eighth 256)=toK s * T∧(X≠0→T * T=1):=by
  refine ⟨toK (s ^ (2 * eighth - 1)),?_,fun hX=>?_⟩
  ·rw [toK_fpow _ _ (by decide +kernel),← to_mul,← to_mul,← Nat.pow_add,← Nat.pow_succ',show (2 * eighth - 1).succ=eighth+eighth by decide +kernel]
  ·have hX':X.val % P0≠0:=fun e=>hX (by rw [← val_to X];exact to_zero.2 e)
   rw [← to_mul,← Nat.pow_add]
   show _=toK 1
   rw [to_eq,show 1 % P0=1 by decide +kernel]
   refine Eq.trans ?_ (fermat _ hX')
   have e1:s % P0=(X.val * X.val) % P0:=by rw [← to_eq,h,to_mul,val_to]
   rw [Nat.pow_mod,e1,← Nat.pow_mod,Nat.mul_pow,← Nat.pow_add]
   congr 2
 obtain ⟨T,hT1,hT2⟩:=hT
 have hy:∃ y,y < Fp.p∧fmul y y=s∧fsqrt s=(if y % 2=1 then fsub 0 y else y,true):=by
  by_cases h1:fmul (fpow s eighth 256) (fpow s eighth 256)=s
  ·exact ⟨fpow s eighth 256,fpow_lt _ _ _,h1,by unfold fsqrt;simp only [if_pos h1]⟩
  ·have h2:T≠1:=fun e=>h1 (toK_lt (fmul_lt _ _) hs (by rw [to_fmul,hT1,e];grind))
   have h0:X≠0:=fun e=>h1 (toK_lt (fmul_lt _ _) hs (by rw [to_fmul,hT1,h,e];grind))
   have h3:=(pm_one (hT2 h0)).resolve_left h2
   have h4:fmul (fmul (fpow s eighth 256) im) (fmul (fpow s eighth 256) im)=s:=toK_lt (fmul_lt _ _) hs (by
    rw [to_fmul,to_fmul]
    have:=im_k
    rw [h3] at hT1
    grind)
   exact ⟨fmul (fpow s eighth 256) im,fmul_lt _ _,h4,by unfold fsqrt;simp only [if_neg h1,if_pos h4]⟩
 obtain ⟨y,y1,y2,y3⟩:=hy
 have y4:toK y * toK y=X * X:=by rw [← to_fmul,y2,h]
 have hp2:Fp.p % 2=1:=by decide +kernel
 rw [y3]
 refine ⟨rfl,?_⟩
 show toK (if y % 2=1 then fsub 0 y else y) * toK (if y % 2=1 then fsub 0 y else y)=_∧(if y % 2=1 then fsub 0 y else y) % 2=0∧(if y % 2=1 then fsub 0 y else y) < Fp.p
 split
 ·rename_i ho
  have e1:fsub 0 y=Fp.p - y:=by
   rw [fsub,Nat.zero_add,Nat.mod_eq_of_lt (by omega)]
  refine ⟨?_,by rw [e1];omega,fsub_lt _ _⟩
  rw [to_fsub 0 y1]
  have:toK 0=0:=rfl
  rw [this]
  grind
 ·exact ⟨y4,by omega,y1⟩
theorem o4 {n:Nat} [NeZero n] (d:Fin n):d * (0 * 0)+1=1:=by grind
theorem den (A:K×K):toK D0 * (A.2 * A.2)+1≠0:=by
 intro h
 obtain ⟨i,hi⟩:=fld.im
 have h1:i * i=toK D0 * (A.2 * A.2):=by rw [hi];grind
 have h2:=non h1
 rw [h2] at h
 have h3:toK D0 * ((0:K) * 0)+1=1:=o4 _
 exact fld.one (h3.symm.trans h)
theorem num {A:K×K} (hA:on A):(A.2 * A.2 - 1) * inv (toK D0 * (A.2 * A.2)+1)=A.1 * A.1:=by
 have h1:=inv_ok _ (den A)
 have h2:A.2 * A.2 - 1=A.1 * A.1 * (toK D0 * (A.2 * A.2)+1):=by
  have h3:A.2 * A.2=A.1 * A.1+1+toK D0 * (A.1 * A.1) * (A.2 * A.2):=hA
  grind
 rw [h2]
 grind
theorem read_back {A:K×K} (hA:on A):∃ Q,eread (A.2.val+2 ^ 255 * (A.1.val % 2))=some Q∧Is Q A:=by
 have hp:=p_eq
 have hy:A.2.val < Fp.p:=A.2.isLt
 have hx:A.1.val < Fp.p:=A.1.isLt
 have hb:A.1.val % 2 < 2:=Nat.mod_lt _ (by decide)
 have e1:(A.2.val+2 ^ 255 * (A.1.val % 2)) % 2 ^ 255=A.2.val:=by omega
 have e2:(A.2.val+2 ^ 255 * (A.1.val % 2)) / 2 ^ 255=A.1.val % 2:=by omega
 have hp2:Fp.p % 2=1:=by decide +kernel
 obtain ⟨r1,r2,r3,r4⟩:=root_k (s:=fmul (fsub (fmul A.2.val A.2.val) 1) (finv (fadd (fmul dd (fmul A.2.val A.2.val)) 1))) (fmul_lt _ _) (X:=A.1) (by
  rw [to_fmul,toK_finv,to_fsub _ one_lt,to_fadd,to_fmul,to_fmul,to_fmul,val_to,d_is]
  exact num hA)
 unfold eread
 simp only [e1,e2]
 rw [if_pos hy]
 generalize fsqrt (fmul (fsub (fmul A.2.val A.2.val) 1) (finv (fadd (fmul dd (fmul A.2.val A.2.val)) 1)))=R at *
 have hx0:A.1.val % 2=1→R.1≠0:=fun ho h0=>by
  rw [h0] at r2
  have h1:A.1 * A.1=0:=by rw [← r2];rfl
  have h2:A.1=0:=(int h1).elim id id
  rw [h2] at ho
  exact absurd ho (by decide +kernel)
 rw [if_pos ⟨r1,hx0⟩]
 refine ⟨_,rfl,?_⟩
 have key:toK (if A.1.val % 2=1 then fsub 0 R.1 else R.1)=A.1:=by
  have v1:toK A.1.val=A.1:=val_to _
  split
  ·rename_i ho
   rw [to_fsub 0 r4]
   rcases pm r2 with h|h
   ·have:=toK_is r4 h
    omega
   ·rw [h]
    show toK 0 - -A.1=A.1
    have:toK 0=0:=rfl
    rw [this]
    grind
  ·rename_i ho
   rcases pm r2 with h|h
   ·exact h
   ·have h1:toK (R.1+A.1.val)=0:=by rw [to_add,h,v1];grind
    rw [to_zero] at h1
    have h2:R.1=0∧A.1.val=0:=by
     have h1':(R.1+A.1.val) % Fp.p=0:=h1
     obtain ⟨c,hc⟩:=Nat.dvd_of_mod_eq_zero h1'
     have:c < 2:=by
      rcases Nat.lt_or_ge c 2 with h3|h3
      ·exact h3
      ·have:=Nat.mul_le_mul_left Fp.p h3
       omega
     rcases (show c=0∨c=1 by omega) with rfl|rfl <;> omega
    rw [h2.1]
    rw [h2.2] at v1
    exact v1
 have hlt:(if A.1.val % 2=1 then fsub 0 R.1 else R.1) < Fp.p:=by
  split
  ·exact fsub_lt _ _
  ·exact r4
 have t1:toK 1=1:=rfl
 exact ⟨⟨hlt,hy,one_lt,fmul_lt _ _⟩,⟨by show toK 1≠0;exact fld.one,by show toK _=A.1 * toK 1;rw [key,t1];grind,by show toK _=A.2 * toK 1;rw [val_to,t1];grind,by show toK (fmul _ _)=A.1 * A.2 * toK 1;rw [to_fmul,key,val_to,t1];grind⟩⟩
end Go.Proofs.YtodnkallpfkdiaaDoor.Ed
