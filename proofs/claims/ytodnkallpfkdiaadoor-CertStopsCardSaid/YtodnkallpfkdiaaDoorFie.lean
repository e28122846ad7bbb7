/- The field of 2^255-19 as Fin: its laws, the curve as a group. No program here; no condition. -/
import Derived.Test.YtodnkallpfkdiaaDoorEdw
import Derived.Test.YtodnkallpfkdiaaDoorPri
namespace Go.Proofs.YtodnkallpfkdiaaDoor.Ed
open Pri
abbrev K:=Fin P0
instance:NeZero P0:=⟨by decide +kernel⟩
theorem P0_pos:0 < P0:=by decide +kernel
/-- A number as one of the field. -/
def toK (x:Nat):K:=Fin.ofNat P0 x
theorem to_val (x:Nat):(toK x).val=x % P0:=rfl
theorem to_mod (x:Nat):toK (x % P0)=toK x:=Fin.ext (by rw [to_val,to_val,Nat.mod_mod])
theorem val_to (a:K):toK a.val=a:=Fin.ext (by rw [to_val];exact Nat.mod_eq_of_lt a.isLt)
theorem to_add (x y:Nat):toK (x+y)=toK x+toK y:=Fin.ext (by rw [Fin.val_add,to_val,to_val,to_val,← Nat.add_mod])
theorem to_mul (x y:Nat):toK (x * y)=toK x * toK y:=Fin.ext (by rw [Fin.val_mul,to_val,to_val,to_val,← Nat.mul_mod])
theorem to_sub {x y:Nat} (h:y < P0):toK (x+P0 - y)=toK x - toK y:=by
 have h1:toK (x+P0 - y)+toK y=toK x:=by
  rw [← to_add,show x+P0 - y+y=x+P0 by omega]
  exact Fin.ext (by rw [to_val,to_val,Nat.add_mod_right])
 grind
theorem to_eq {x y:Nat}:toK x=toK y↔x % P0=y % P0:=⟨fun h=>by have:=congrArg Fin.val h;rwa [to_val,to_val] at this,fun h=>Fin.ext h⟩
theorem to_zero {x:Nat}:toK x=0↔x % P0=0:=by
 rw [show (0:K)=toK 0 from rfl,to_eq,Nat.zero_mod]
theorem int {a b:K} (h:a * b=0):a=0∨b=0:=by
 rw [← val_to a,← val_to b,← to_mul,to_zero] at h
 rcases prP.dvd_mul (Nat.dvd_of_mod_eq_zero h) with h1|h1
 ·left;rw [← val_to a];exact to_zero.2 (Nat.mod_eq_zero_of_dvd h1)
 ·right;rw [← val_to b];exact to_zero.2 (Nat.mod_eq_zero_of_dvd h1)
def D0:Nat:=37095705934669439343138083508754565189542113879843219016388785533085940283555
def I0:Nat:=19681161376707505956807079304988542015446066515923890162744021073123829784752
def H0:Nat:=(P0 - 1) / 2
theorem d_half:D0 ^ H0 % P0=P0 - 1:=by
 rw [← pw_full P0 D0 H0 (by decide +kernel)]
 decide +kernel
theorem non {a b:K} (h:a * a=toK D0 * (b * b)):b=0:=by
 rcases Classical.em (b=0) with hb|hb
 ·exact hb
 exfalso
 have hb':b.val % P0≠0:=fun e=>hb (by rw [← val_to b];exact to_zero.2 e)
 have e1:(a.val * a.val) % P0=(D0 * (b.val * b.val)) % P0:=by
  rw [← to_eq,to_mul,to_mul,to_mul,val_to,val_to];exact h
 have e2:(a.val * a.val) ^ H0 % P0=(D0 * (b.val * b.val)) ^ H0 % P0:=by
  rw [Nat.pow_mod,e1,← Nat.pow_mod]
 have h2:H0+H0=P0 - 1:=by decide +kernel
 rw [Nat.mul_pow,Nat.mul_pow,Nat.mul_pow,← Nat.pow_add,← Nat.pow_add,h2,Nat.mul_mod,d_half,fermat _ hb',Nat.mul_one,Nat.mod_eq_of_lt (show P0 - 1 < P0 by decide +kernel)] at e2
 by_cases ha:a.val % P0=0
 ·rw [Nat.pow_mod,ha,Nat.zero_pow (by decide +kernel)] at e2
  exact absurd e2 (by decide +kernel)
 ·rw [fermat _ ha] at e2
  exact absurd e2 (by decide +kernel)
theorem fld:Fld (toK D0) where
 int _ _ h:=int h
 im:=⟨toK I0,by decide +kernel⟩
 non _ _ h:=non h
 two:=by decide +kernel
 one:=by decide +kernel
/-- The inverse. -/
def inv (a:K):K:=toK (a.val ^ (P0 - 2))
theorem inv_ok:Inv inv:=by
 intro a ha
 have h1:a.val % P0≠0:=fun e=>ha (by rw [← val_to a];exact to_zero.2 e)
 unfold inv
 rw [← congrArg (· * toK (a.val ^ (P0 - 2))) (val_to a)]
 show toK a.val * toK (a.val ^ (P0 - 2))=1
 rw [← to_mul,Nat.mul_comm,← Nat.pow_succ,show (P0 - 2).succ=P0 - 1 by decide +kernel]
 show toK _=toK 1
 rw [to_eq,fermat _ h1]
 decide +kernel
end Go.Proofs.YtodnkallpfkdiaaDoor.Ed
