/- Four numbers for a point; its multiples: a group of order q. No program here; no condition. -/
import Derived.Test.YtodnkallpfkdiaaDoorEdw
namespace Go.Proofs.YtodnkallpfkdiaaDoor.Ed
section
variable {n:Nat} [NeZero n]
theorem xa (a1 a2 b1 b2 z1 z2:Fin n):(a2*z1+a1*z1)*(b2*z2+b1*z2) - (a2*z1 - a1*z1)*(b2*z2 - b1*z2)=2*z1*z2*(a1*b2+a2*b1):=by grind
theorem xb (a1 a2 b1 b2 z1 z2:Fin n):(a2*z1+a1*z1)*(b2*z2+b1*z2)+(a2*z1 - a1*z1)*(b2*z2 - b1*z2)=2*z1*z2*(a2*b2+a1*b1):=by grind
theorem xc (d a1 a2 b1 b2 z1 z2:Fin n):z1*(z2+z2) - (a1*a2*z1)*(d+d)*(b1*b2*z2)=2*z1*z2*(1 - d*a1*b1*a2*b2):=by grind
theorem xd (d a1 a2 b1 b2 z1 z2:Fin n):z1*(z2+z2)+(a1*a2*z1)*(d+d)*(b1*b2*z2)=2*z1*z2*(1+d*a1*b1*a2*b2):=by grind
theorem xe (w A u m p:Fin n) (h:p*u=1):(w*A)*(w*m)=(A*u)*((w*m)*(w*p)):=by grind
theorem xf (w B v m p:Fin n) (h:m*v=1):(w*p)*(w*B)=(B*v)*((w*m)*(w*p)):=by grind
theorem xg (w A B u v m p:Fin n) (h:p*u=1) (h':m*v=1):(w*A)*(w*B)=(A*u)*(B*v)*((w*m)*(w*p)):=by grind
/-- Four numbers that stand for a pair. -/
structure Ext (x y z t:Fin n) (A:Fin n×Fin n):Prop where
 ez:z≠0
 ex:x=A.1 * z
 ey:y=A.2 * z
 et:t=A.1 * A.2 * z
theorem Ext.add {d:Fin n} {inv:Fin n→Fin n} (F:Fld d) (I:Inv inv) {x1 y1 z1 t1 x2 y2 z2 t2:Fin n} {A B:Fin n×Fin n} (hA:OnP d A) (hB:OnP d B)
  (E1:Ext x1 y1 z1 t1 A) (E2:Ext x2 y2 z2 t2 B) {a b c z:Fin n} (ha:a=(y1 - x1)*(y2 - x2)) (hb:b=(y1+x1)*(y2+x2)) (hc:c=t1*(d+d)*t2) (hz:z=z1*(z2+z2)) :
  Ext ((b - a)*(z - c)) ((z+c)*(b+a)) ((z - c)*(z+c)) ((b - a)*(b+a)) (eadd d inv A B):=by
 obtain ⟨p1,m1⟩:=whole F hA hB
 have u1:=I _ p1
 have v1:=I _ m1
 have n1:=E1.ez
 have n2:=E2.ez
 have e1:b - a=2*z1*z2*(A.1*B.2+A.2*B.1):=by rw [ha,hb,E1.ex,E1.ey,E2.ex,E2.ey];exact xa _ _ _ _ _ _
 have e2:b+a=2*z1*z2*(A.2*B.2+A.1*B.1):=by rw [ha,hb,E1.ex,E1.ey,E2.ex,E2.ey];exact xb _ _ _ _ _ _
 have e3:z - c=2*z1*z2*(1 - d*A.1*B.1*A.2*B.2):=by rw [hc,hz,E1.et,E2.et];exact xc _ _ _ _ _ _ _
 have e4:z+c=2*z1*z2*(1+d*A.1*B.1*A.2*B.2):=by rw [hc,hz,E1.et,E2.et];exact xd _ _ _ _ _ _ _
 have hw:(2*z1*z2:Fin n)≠0:=mul_ne F (mul_ne F F.two n1) n2
 rw [e1,e2,e3,e4]
 exact ⟨mul_ne F (mul_ne F hw m1) (mul_ne F hw p1),xe _ _ _ _ _ u1,xf _ _ _ _ _ v1,xg _ _ _ _ _ _ _ u1 v1⟩
/-- k times, doubling and adding: as the addition is a group's. -/
def times (d:Fin n) (inv:Fin n→Fin n) (A:Fin n×Fin n):Nat→Fin n×Fin n
 | 0=>(0,1)
 | k+1=>eadd d inv (times d inv A k) A
theorem on_zero (d:Fin n):OnP d (0,1):=by
 show (1:Fin n)*1=0*0+1+d*(0*0)*(1*1)
 grind
theorem on_times {d:Fin n} {inv:Fin n→Fin n} (F:Fld d) (I:Inv inv) {A:Fin n×Fin n} (hA:OnP d A):∀ k,OnP d (times d inv A k)
 | 0=>on_zero d
 | k+1=>on_add F I (on_times F I hA k) hA
theorem times_add {d:Fin n} {inv:Fin n→Fin n} (F:Fld d) (I:Inv inv) {A:Fin n×Fin n} (hA:OnP d A) (j:Nat):∀ k,times d inv A (j+k)=eadd d inv (times d inv A j) (times d inv A k)
 | 0=>(add_zero I F.one _).symm
 | k+1=>by
  show eadd d inv (times d inv A (j+k)) A=eadd d inv _ (eadd d inv (times d inv A k) A)
  rw [times_add F I hA j k,add_assoc F I (on_times F I hA j) (on_times F I hA k) hA]
theorem zero_add {d:Fin n} {inv:Fin n→Fin n} (F:Fld d) (I:Inv inv) (A:Fin n×Fin n):eadd d inv (0,1) A=A:=by
 rw [add_comm];exact add_zero I F.one A
theorem times_mul {d:Fin n} {inv:Fin n→Fin n} (F:Fld d) (I:Inv inv) {A:Fin n×Fin n} (hA:OnP d A) (j:Nat):∀ k,times d inv A (j * k)=times d inv (times d inv A j) k
 | 0=>rfl
 | k+1=>by
  show times d inv A (j * k+j)=eadd d inv (times d inv (times d inv A j) k) _
  rw [times_add F I hA,times_mul F I hA j k]
theorem times_zero {d:Fin n} {inv:Fin n→Fin n} (F:Fld d) (I:Inv inv):∀ k,times d inv (0,1) k=(0,1)
 | 0=>rfl
 | k+1=>by
  show eadd d inv (times d inv (0,1) k) (0,1)=(0,1)
  rw [times_zero F I k,add_zero I F.one]
/-- A point of order q: the multiples go by the rest. -/
theorem times_mod {d:Fin n} {inv:Fin n→Fin n} (F:Fld d) (I:Inv inv) {A:Fin n×Fin n} (hA:OnP d A) {q:Nat} (hq:times d inv A q=(0,1)) (k:Nat):times d inv A (k % q)=times d inv A k:=by
 have h:times d inv A k=eadd d inv (times d inv A (q * (k / q))) (times d inv A (k % q)):=by
  rw [← times_add F I hA,Nat.div_add_mod]
 rw [h,times_mul F I hA,hq,times_zero F I,zero_add F I]
end
end Go.Proofs.YtodnkallpfkdiaaDoor.Ed
