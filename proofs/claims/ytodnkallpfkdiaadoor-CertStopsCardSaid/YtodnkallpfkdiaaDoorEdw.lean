/- Edwards' curve over a field of Fin n in which -1 is a square and d is none: the sum is whole, stays on the curve, and is a group's. No program here; no condition. -/
set_option maxRecDepth 100000
set_option maxHeartbeats 16000000
set_option linter.unusedSimpArgs false
set_option linter.unusedVariables false
namespace Go.Proofs.YtodnkallpfkdiaaDoor.Ed
section
variable {n:Nat} [NeZero n]
/-- The curve. -/
def On (d x y:Fin n):Prop:=y*y=x*x+1+d*(x*x)*(y*y)
structure Fld (d:Fin n):Prop where
 int:∀ a b:Fin n,a * b=0→a=0∨b=0
 im:∃ i:Fin n,i * i = -1
 non:∀ a b:Fin n,a * a=d * (b * b)→b=0
 two:(2:Fin n)≠0
 one:(1:Fin n)≠0
theorem half (d x1 y1 x2 y2 i e:Fin n) (hi:i * i = -1) (h1:On d x1 y1) (h2:On d x2 y2) (he:d*x1*x2*y1*y2=e) (hee:e * e=1) :
  (i*x1+e*y1)*(i*x1+e*y1)=d*((i*(i*x1)*y1*(i*x2+y2))*(i*(i*x1)*y1*(i*x2+y2))):=by
 unfold On at *
 grind
theorem half' (d x1 y1 x2 y2 i e:Fin n) (hi:i * i = -1) (h1:On d x1 y1) (h2:On d x2 y2) (he:d*x1*x2*y1*y2=e) (hee:e * e=1) :
  (i*x1 - e*y1)*(i*x1 - e*y1)=d*((i*(i*x1)*y1*(i*x2 - y2))*(i*(i*x1)*y1*(i*x2 - y2))):=by
 unfold On at *
 grind
theorem no_unit {d x1 y1 x2 y2 e:Fin n} (F:Fld d) (h1:On d x1 y1) (h2:On d x2 y2) (he:d*x1*x2*y1*y2=e) (hee:e * e=1):False:=by
 obtain ⟨i,hi⟩:=F.im
 have a1:=F.non _ _ (half d x1 y1 x2 y2 i e hi h1 h2 he hee)
 have a2:=F.non _ _ (half' d x1 y1 x2 y2 i e hi h1 h2 he hee)
 have hxy:¬ x1 * y1=0:=fun h=>F.one (by
  have:e=d * x2 * y2 * (x1 * y1):=by rw [← he];grind
  rw [h] at this
  grind)
 have b1:(x1 * y1) * (i*x2+y2)=0:=by grind
 have b2:(x1 * y1) * (i*x2 - y2)=0:=by grind
 have c1:=(F.int _ _ b1).resolve_left hxy
 have c2:=(F.int _ _ b2).resolve_left hxy
 have c3:2 * y2=0:=by grind
 have c4:=(F.int _ _ c3).resolve_left F.two
 exact F.one (by rw [c4] at he;grind)
theorem whole {d x1 y1 x2 y2:Fin n} (F:Fld d) (h1:On d x1 y1) (h2:On d x2 y2):1+d*x1*x2*y1*y2≠0∧1 - d*x1*x2*y1*y2≠0:=by
 constructor
 ·intro h
  exact no_unit F h1 h2 rfl (by grind)
 ·intro h
  exact no_unit F h1 h2 rfl (by grind)
theorem closed (d x1 y1 x2 y2 u v:Fin n) (h1:On d x1 y1) (h2:On d x2 y2) (hu:(1+d*x1*x2*y1*y2)*u=1) (hv:(1 - d*x1*x2*y1*y2)*v=1):On d ((x1*y2+y1*x2)*u) ((y1*y2+x1*x2)*v):=by
 unfold On at *
 grind
theorem as_x (d x1 y1 x2 y2 x3 y3:Fin n) (h1:On d x1 y1) (h2:On d x2 y2) (h3:On d x3 y3) :
  ((x1*y2+y1*x2)*(1-d*x1*x2*y1*y2)*y3+(y1*y2+x1*x2)*(1+d*x1*x2*y1*y2)*x3)*((1+d*x2*x3*y2*y3)*(1-d*x2*x3*y2*y3)+d*(x2*y3+y2*x3)*(y2*y3+x2*x3)*x1*y1)=(x1*(y2*y3+x2*x3)*(1+d*x2*x3*y2*y3)+y1*(x2*y3+y2*x3)*(1-d*x2*x3*y2*y3))*((1+d*x1*x2*y1*y2)*(1-d*x1*x2*y1*y2)+d*(x1*y2+y1*x2)*(y1*y2+x1*x2)*x3*y3):=by
 unfold On at *
 grind
theorem as_y (d x1 y1 x2 y2 x3 y3:Fin n) (h1:On d x1 y1) (h2:On d x2 y2) (h3:On d x3 y3) :
  ((y1*y2+x1*x2)*(1+d*x1*x2*y1*y2)*y3+(x1*y2+y1*x2)*(1-d*x1*x2*y1*y2)*x3)*((1+d*x2*x3*y2*y3)*(1-d*x2*x3*y2*y3) - d*(x2*y3+y2*x3)*(y2*y3+x2*x3)*x1*y1)=(y1*(y2*y3+x2*x3)*(1+d*x2*x3*y2*y3)+x1*(x2*y3+y2*x3)*(1-d*x2*x3*y2*y3))*((1+d*x1*x2*y1*y2)*(1-d*x1*x2*y1*y2) - d*(x1*y2+y1*x2)*(y1*y2+x1*x2)*x3*y3):=by
 unfold On at *
 grind
/-- A way to divide. -/
def Inv (inv:Fin n→Fin n):Prop:=∀ a:Fin n,a≠0→a * inv a=1
def eadd (d:Fin n) (inv:Fin n→Fin n) (P Q:Fin n×Fin n):Fin n×Fin n :=
 ((P.1*Q.2+P.2*Q.1) * inv (1+d*P.1*Q.1*P.2*Q.2),(P.2*Q.2+P.1*Q.1) * inv (1 - d*P.1*Q.1*P.2*Q.2))
def OnP (d:Fin n) (P:Fin n×Fin n):Prop:=On d P.1 P.2
theorem cross {L R N N' D D':Fin n} (hL:L * D=N) (hR:R * D'=N') (h:N * D'=N' * D):(L - R) * (D * D')=0:=by grind
theorem zsub {L R:Fin n} (h:L - R=0):L=R:=by grind
theorem frac {d L R N N' D D':Fin n} (F:Fld d) (hL:L * D=N) (hR:R * D'=N') (h:N * D'=N' * D) (hD:D≠0) (hD':D'≠0):L=R:=by
 rcases F.int _ _ (cross hL hR h) with h2|h2
 ·exact zsub h2
 ·rcases F.int _ _ h2 with h3|h3
  ·exact absurd h3 hD
  ·exact absurd h3 hD'
theorem mul_ne {d a b:Fin n} (F:Fld d) (ha:a≠0) (hb:b≠0):a * b≠0:=fun h=>(F.int _ _ h).elim ha hb
theorem on_add {d:Fin n} {inv:Fin n→Fin n} (F:Fld d) (I:Inv inv) {P Q:Fin n×Fin n} (h1:OnP d P) (h2:OnP d Q):OnP d (eadd d inv P Q):=by
 obtain ⟨a,b⟩:=whole F h1 h2
 exact closed d P.1 P.2 Q.1 Q.2 _ _ h1 h2 (I _ a) (I _ b)
theorem cm1 (d a b c e:Fin n):d*a*b*c*e=d*b*a*e*c:=by grind
theorem cm2 (a b c e:Fin n):a*b+c*e=e*c+b*a:=by grind
theorem cm3 (a b c e:Fin n):a*b+c*e=b*a+e*c:=by grind
theorem add_comm {d:Fin n} {inv:Fin n→Fin n} (P Q:Fin n×Fin n):eadd d inv P Q=eadd d inv Q P:=by
 unfold eadd
 rw [cm1 d P.1 Q.1 P.2 Q.2,cm2 P.1 Q.2 P.2 Q.1,cm3 P.2 Q.2 P.1 Q.1]
theorem cl1 (d A B u v p m x y:Fin n) (hu:p*u=1) (hv:m*v=1):p*m*(1+d*(A*u)*x*(B*v)*y)=p*m+d*A*B*x*y:=by grind
theorem cl2 (d A B u v p m x y:Fin n) (hu:p*u=1) (hv:m*v=1):p*m*(1+d*x*(A*u)*y*(B*v))=p*m+d*A*B*x*y:=by grind
theorem cl3 (d A B u v p m x y:Fin n) (hu:p*u=1) (hv:m*v=1):p*m*(1 - d*(A*u)*x*(B*v)*y)=p*m - d*A*B*x*y:=by grind
theorem cl4 (d A B u v p m x y:Fin n) (hu:p*u=1) (hv:m*v=1):p*m*(1 - d*x*(A*u)*y*(B*v))=p*m - d*A*B*x*y:=by grind
theorem nm1 (A B u v p m x y w X:Fin n) (hu:p*u=1) (hv:m*v=1) (hw:X*w=1):((A*u)*y+(B*v)*x)*w*(p*m*X)=A*m*y+B*p*x:=by grind
theorem nm2 (A B u v p m x y w X:Fin n) (hu:p*u=1) (hv:m*v=1) (hw:X*w=1):(x*(B*v)+y*(A*u))*w*(p*m*X)=x*B*p+y*A*m:=by grind
theorem nm3 (A B u v p m x y w X:Fin n) (hu:p*u=1) (hv:m*v=1) (hw:X*w=1):((B*v)*y+(A*u)*x)*w*(p*m*X)=B*p*y+A*m*x:=by grind
theorem add_assoc {d:Fin n} {inv:Fin n→Fin n} (F:Fld d) (I:Inv inv) {P Q R:Fin n×Fin n} (h1:OnP d P) (h2:OnP d Q) (h3:OnP d R):eadd d inv (eadd d inv P Q) R=eadd d inv P (eadd d inv Q R):=by
 have h12:=on_add F I h1 h2
 have h23:=on_add F I h2 h3
 obtain ⟨p1,m1⟩:=whole F h1 h2
 obtain ⟨p2,m2⟩:=whole F h2 h3
 obtain ⟨p3,m3⟩:=whole F h12 h3
 obtain ⟨p4,m4⟩:=whole F h1 h23
 obtain ⟨x1,y1⟩:=P
 obtain ⟨x2,y2⟩:=Q
 obtain ⟨x3,y3⟩:=R
 have u1:=I _ p1
 have v1:=I _ m1
 have u2:=I _ p2
 have v2:=I _ m2
 have u3:=I _ p3
 have v3:=I _ m3
 have u4:=I _ p4
 have v4:=I _ m4
 simp only [eadd] at *
 generalize inv (1+d*x1*x2*y1*y2)=u at *
 generalize inv (1 - d*x1*x2*y1*y2)=v at *
 generalize inv (1+d*x2*x3*y2*y3)=u' at *
 generalize inv (1 - d*x2*x3*y2*y3)=v' at *
 have k1:=as_x d x1 y1 x2 y2 x3 y3 h1 h2 h3
 have k2:=as_y d x1 y1 x2 y2 x3 y3 h1 h2 h3
 have q1:=mul_ne F (mul_ne F p1 m1) p3
 have q2:=mul_ne F (mul_ne F p2 m2) p4
 have q3:=mul_ne F (mul_ne F p1 m1) m3
 have q4:=mul_ne F (mul_ne F p2 m2) m4
 have e1:=cl1 d (x1*y2+y1*x2) (y1*y2+x1*x2) u v _ _ x3 y3 u1 v1
 have e2:=cl2 d (x2*y3+y2*x3) (y2*y3+x2*x3) u' v' _ _ x1 y1 u2 v2
 have e3:=cl3 d (x1*y2+y1*x2) (y1*y2+x1*x2) u v _ _ x3 y3 u1 v1
 have e4:=cl4 d (x2*y3+y2*x3) (y2*y3+x2*x3) u' v' _ _ x1 y1 u2 v2
 rw [← e1,← e2] at k1
 rw [← e3,← e4] at k2
 apply Prod.ext
 ·exact frac F (nm1 _ _ _ _ _ _ _ _ _ _ u1 v1 u3) (nm2 _ _ _ _ _ _ _ _ _ _ u2 v2 u4) k1 q1 q2
 ·exact frac F (nm3 _ _ _ _ _ _ _ _ _ _ u1 v1 v3) (nm2 _ _ _ _ _ _ _ _ _ _ u2 v2 v4) k2 q3 q4
theorem o1 (d a b:Fin n):1+d*a*0*b*1=1:=by grind
theorem o2 (d a b:Fin n):1 - d*a*0*b*1=1:=by grind
theorem o3 (a b k:Fin n) (h:1 * k=1):(a * 1+b * 0) * k=a:=by grind
theorem add_zero {d:Fin n} {inv:Fin n→Fin n} (I:Inv inv) (h1:(1:Fin n)≠0) (P:Fin n×Fin n):eadd d inv P (0,1)=P:=by
 have k:=I 1 h1
 simp only [eadd]
 rw [o1,o2]
 exact Prod.ext (o3 _ _ _ k) (o3 _ _ _ k)
end
end Go.Proofs.YtodnkallpfkdiaaDoor.Ed
