/- A point's bytes are read back as that point. No program here; no condition. The ladder's numbers on Edwards' curve: the equations. No program here; no condition. X25519 and Edwards' curve: what the ladder's numbers are. No program here; no condition. X25519 commutes, and leads from the base nowhere to nothing. No program here; no condition. -/
import Derived.Test.YtogebegdgfdijaaGe
namespace Go.Proofs.Ytogebegdgfdijaa.Ed
open Go.RowKit Lm Fp Cu Pri

theorem fpow_pw (a e : Nat) : ∀ n, fpow a e n = pw P0 a e n
  | 0 => rfl
  | n + 1 => by
    unfold fpow pw
    rw [fpow_pw a e n]
    rfl
theorem toK_fpow (a e : Nat) (he : e < 2 ^ 256) : toK (fpow a e 256) = toK (a ^ e) := by
  rw [fpow_pw, to_eq, pw_full P0 a e he]
theorem toK_finv (a : Nat) : toK (finv a) = inv (toK a) := by
  unfold finv inv
  rw [toK_fpow _ _ (by decide +kernel), to_eq, to_val, p_is, ← Nat.pow_mod]
theorem toK_lt {x y : Nat} (hx : x < Fp.p) (hy : y < Fp.p) (h : toK x = toK y) : x = y := by
  rw [to_eq, ← p_is, Nat.mod_eq_of_lt hx, Nat.mod_eq_of_lt hy] at h
  exact h
theorem toK_is {x : Nat} (hx : x < Fp.p) {a : K} (h : toK x = a) : x = a.val := by
  rw [← h, to_val, ← p_is, Nat.mod_eq_of_lt hx]
theorem mul_inv (a z : K) (hz : z ≠ 0) : a * z * inv z = a := by
  have := inv_ok z hz
  grind
theorem Is.bytes {P : Pt} {A : K × K} (h : Is P A) : ebytes P = A.2.val + 2 ^ 255 * (A.1.val % 2) := by
  have e1 : fmul P.y (finv P.z) = A.2.val := toK_is (fmul_lt _ _) (by rw [to_fmul, toK_finv, h.ext.ey]; exact mul_inv _ _ h.ext.ez)
  have e2 : fmul P.x (finv P.z) = A.1.val := toK_is (fmul_lt _ _) (by rw [to_fmul, toK_finv, h.ext.ex]; exact mul_inv _ _ h.ext.ez)
  unfold ebytes
  rw [e1, e2]
theorem pm_one {t : K} (h : t * t = 1) : t = 1 ∨ t = -1 := by
  have h1 : (t - 1) * (t + 1) = 0 := by grind
  rcases int h1 with h2 | h2
  · left; grind
  · right; grind
theorem pm {r x : K} (h : r * r = x * x) : r = x ∨ r = -x := by
  have h1 : (r - x) * (r + x) = 0 := by grind
  rcases int h1 with h2 | h2
  · left; grind
  · right; grind
theorem im_k : toK im * toK im = -1 := by decide +kernel
/-- The root of a square is found. -/
theorem root_k {s : Nat} (hs : s < Fp.p) {X : K} (h : toK s = X * X) : (fsqrt s).2 = true ∧ toK (fsqrt s).1 * toK (fsqrt s).1 = X * X ∧ (fsqrt s).1 % 2 = 0 ∧ (fsqrt s).1 < Fp.p := by
  have hT : ∃ T : K, toK (fpow s eighth 256) * toK (fpow s eighth 256) = toK s * T ∧ (X ≠ 0 → T * T = 1) := by
    refine ⟨toK (s ^ (2 * eighth - 1)), ?_, fun hX => ?_⟩
    · rw [toK_fpow _ _ (by decide +kernel), ← to_mul, ← to_mul, ← Nat.pow_add, ← Nat.pow_succ', show (2 * eighth - 1).succ = eighth + eighth by decide +kernel]
    · have hX' : X.val % P0 ≠ 0 := fun e => hX (by rw [← val_to X]; exact to_zero.2 e)
      rw [← to_mul, ← Nat.pow_add]
      show _ = toK 1
      rw [to_eq, show 1 % P0 = 1 by decide +kernel]
      refine Eq.trans ?_ (fermat _ hX')
      have e1 : s % P0 = (X.val * X.val) % P0 := by rw [← to_eq, h, to_mul, val_to]
      rw [Nat.pow_mod, e1, ← Nat.pow_mod, Nat.mul_pow, ← Nat.pow_add]
      congr 2
  obtain ⟨T, hT1, hT2⟩ := hT
  have hy : ∃ y, y < Fp.p ∧ fmul y y = s ∧ fsqrt s = (if y % 2 = 1 then fsub 0 y else y, true) := by
    by_cases h1 : fmul (fpow s eighth 256) (fpow s eighth 256) = s
    · exact ⟨fpow s eighth 256, fpow_lt _ _ _, h1, by unfold fsqrt; simp only [if_pos h1]⟩
    · have h2 : T ≠ 1 := fun e => h1 (toK_lt (fmul_lt _ _) hs (by rw [to_fmul, hT1, e]; grind))
      have h0 : X ≠ 0 := fun e => h1 (toK_lt (fmul_lt _ _) hs (by rw [to_fmul, hT1, h, e]; grind))
      have h3 := (pm_one (hT2 h0)).resolve_left h2
      have h4 : fmul (fmul (fpow s eighth 256) im) (fmul (fpow s eighth 256) im) = s := toK_lt (fmul_lt _ _) hs (by
        rw [to_fmul, to_fmul]
        have := im_k
        rw [h3] at hT1
        grind)
      exact ⟨fmul (fpow s eighth 256) im, fmul_lt _ _, h4, by unfold fsqrt; simp only [if_neg h1, if_pos h4]⟩
  obtain ⟨y, y1, y2, y3⟩ := hy
  have y4 : toK y * toK y = X * X := by rw [← to_fmul, y2, h]
  have hp2 : Fp.p % 2 = 1 := by decide +kernel
  rw [y3]
  refine ⟨rfl, ?_⟩
  show toK (if y % 2 = 1 then fsub 0 y else y) * toK (if y % 2 = 1 then fsub 0 y else y) = _ ∧ (if y % 2 = 1 then fsub 0 y else y) % 2 = 0 ∧ (if y % 2 = 1 then fsub 0 y else y) < Fp.p
  split
  · rename_i ho
    have e1 : fsub 0 y = Fp.p - y := by
      rw [fsub, Nat.zero_add, Nat.mod_eq_of_lt (by omega)]
    refine ⟨?_, by rw [e1]; omega, fsub_lt _ _⟩
    rw [to_fsub 0 y1]
    have : toK 0 = 0 := rfl
    rw [this]
    grind
  · exact ⟨y4, by omega, y1⟩
theorem o4 {n : Nat} [NeZero n] (d : Fin n) : d * (0 * 0) + 1 = 1 := by grind
theorem den (A : K × K) : toK D0 * (A.2 * A.2) + 1 ≠ 0 := by
  intro h
  obtain ⟨i, hi⟩ := fld.im
  have h1 : i * i = toK D0 * (A.2 * A.2) := by rw [hi]; grind
  have h2 := non h1
  rw [h2] at h
  have h3 : toK D0 * ((0 : K) * 0) + 1 = 1 := o4 _
  exact fld.one (h3.symm.trans h)
theorem num {A : K × K} (hA : on A) : (A.2 * A.2 - 1) * inv (toK D0 * (A.2 * A.2) + 1) = A.1 * A.1 := by
  have h1 := inv_ok _ (den A)
  have h2 : A.2 * A.2 - 1 = A.1 * A.1 * (toK D0 * (A.2 * A.2) + 1) := by
    have h3 : A.2 * A.2 = A.1 * A.1 + 1 + toK D0 * (A.1 * A.1) * (A.2 * A.2) := hA
    grind
  rw [h2]
  grind
theorem read_back {A : K × K} (hA : on A) : ∃ Q, eread (A.2.val + 2 ^ 255 * (A.1.val % 2)) = some Q ∧ Is Q A := by
  have hp := p_eq
  have hy : A.2.val < Fp.p := A.2.isLt
  have hx : A.1.val < Fp.p := A.1.isLt
  have hb : A.1.val % 2 < 2 := Nat.mod_lt _ (by decide)
  have e1 : (A.2.val + 2 ^ 255 * (A.1.val % 2)) % 2 ^ 255 = A.2.val := by omega
  have e2 : (A.2.val + 2 ^ 255 * (A.1.val % 2)) / 2 ^ 255 = A.1.val % 2 := by omega
  have hp2 : Fp.p % 2 = 1 := by decide +kernel
  obtain ⟨r1, r2, r3, r4⟩ := root_k (s := fmul (fsub (fmul A.2.val A.2.val) 1) (finv (fadd (fmul dd (fmul A.2.val A.2.val)) 1))) (fmul_lt _ _) (X := A.1) (by
    rw [to_fmul, toK_finv, to_fsub _ one_lt, to_fadd, to_fmul, to_fmul, to_fmul, val_to, d_is]
    exact num hA)
  unfold eread
  simp only [e1, e2]
  rw [if_pos hy]
  generalize fsqrt (fmul (fsub (fmul A.2.val A.2.val) 1) (finv (fadd (fmul dd (fmul A.2.val A.2.val)) 1))) = R at *
  have hx0 : A.1.val % 2 = 1 → R.1 ≠ 0 := fun ho h0 => by
    rw [h0] at r2
    have h1 : A.1 * A.1 = 0 := by rw [← r2]; rfl
    have h2 : A.1 = 0 := (int h1).elim id id
    rw [h2] at ho
    exact absurd ho (by decide +kernel)
  rw [if_pos ⟨r1, hx0⟩]
  refine ⟨_, rfl, ?_⟩
  have key : toK (if A.1.val % 2 = 1 then fsub 0 R.1 else R.1) = A.1 := by
    have v1 : toK A.1.val = A.1 := val_to _
    split
    · rename_i ho
      rw [to_fsub 0 r4]
      rcases pm r2 with h | h
      · have := toK_is r4 h
        omega
      · rw [h]
        show toK 0 - -A.1 = A.1
        have : toK 0 = 0 := rfl
        rw [this]
        grind
    · rename_i ho
      rcases pm r2 with h | h
      · exact h
      · have h1 : toK (R.1 + A.1.val) = 0 := by rw [to_add, h, v1]; grind
        rw [to_zero] at h1
        have h2 : R.1 = 0 ∧ A.1.val = 0 := by
          have h1' : (R.1 + A.1.val) % Fp.p = 0 := h1
          obtain ⟨c, hc⟩ := Nat.dvd_of_mod_eq_zero h1'
          have : c < 2 := by
            rcases Nat.lt_or_ge c 2 with h3 | h3
            · exact h3
            · have := Nat.mul_le_mul_left Fp.p h3
              omega
          rcases (show c = 0 ∨ c = 1 by omega) with rfl | rfl <;> omega
        rw [h2.1]
        rw [h2.2] at v1
        exact v1
  have hlt : (if A.1.val % 2 = 1 then fsub 0 R.1 else R.1) < Fp.p := by
    split
    · exact fsub_lt _ _
    · exact r4
  have t1 : toK 1 = 1 := rfl
  exact ⟨⟨hlt, hy, one_lt, fmul_lt _ _⟩, ⟨by show toK 1 ≠ 0; exact fld.one, by show toK _ = A.1 * toK 1; rw [key, t1]; grind, by show toK _ = A.2 * toK 1; rw [val_to, t1]; grind, by show toK (fmul _ _) = A.1 * A.2 * toK 1; rw [to_fmul, key, val_to, t1]; grind⟩⟩
end Go.Proofs.Ytogebegdgfdijaa.Ed
namespace Go.Proofs.Ytogebegdgfdijaa.Ed
section
variable {n : Nat} [NeZero n]
theorem mon_dbl (c d x y : Fin n) (hE : y * y = x * x + 1 + d * (x * x) * (y * y)) (hd : (c + 1) * d = -c) : y * y = (1 + c * (1 - y * y)) * (1 + x * x) := by grind
theorem mon_sq (d x1 y1 x2 y2 : Fin n) (h1 : y1 * y1 = x1 * x1 + 1 + d * (x1 * x1) * (y1 * y1)) (h2 : y2 * y2 = x2 * x2 + 1 + d * (x2 * x2) * (y2 * y2)) :
  ((1 - y1 * y2) * (1 - y1 * y2) - x1 * x2 * (x1 * x2) * ((1 + d * (y1 * y2)) * (1 + d * (y1 * y2)))) * ((y1 + y2) * (y1 + y2)) = ((1 + y1 * y2) * (1 + y1 * y2) - x1 * x2 * (x1 * x2) * ((1 - d * (y1 * y2)) * (1 - d * (y1 * y2)))) * ((y1 - y2) * (y1 - y2)) := by grind
theorem mden (d x y : Fin n) (hE : y * y = x * x + 1 + d * (x * x) * (y * y)) : 1 - d * x * x * y * y = 2 - y * y + x * x := by grind
theorem du1 (g p x y s v : Fin n) (hd : y * y = g * (1 + x * x)) (hp : p = 2 - y * y + x * x) (hv : p * v = 1) :
  (s * (1 + y) + s * (1 - y)) * (s * (1 + y) + s * (1 - y)) * ((s * (1 + y) - s * (1 - y)) * (s * (1 + y) - s * (1 - y))) = 8 * (s * s * s * s) * g * p * (1 + (y * y + x * x) * v) := by grind
theorem du2 (c g p x y s v : Fin n) (hg : g = 1 + c * (1 - y * y)) (hp : p = 2 - y * y + x * x) (hv : p * v = 1) :
  ((s * (1 + y) + s * (1 - y)) * (s * (1 + y) + s * (1 - y)) - (s * (1 + y) - s * (1 - y)) * (s * (1 + y) - s * (1 - y))) * ((s * (1 + y) + s * (1 - y)) * (s * (1 + y) + s * (1 - y)) + c * ((s * (1 + y) + s * (1 - y)) * (s * (1 + y) + s * (1 - y)) - (s * (1 + y) - s * (1 - y)) * (s * (1 + y) - s * (1 - y)))) = 8 * (s * s * s * s) * g * p * (1 - (y * y + x * x) * v) := by grind
theorem ng1 (x y w : Fin n) : (-x * y + y * x) * w = 0 := by grind
theorem ng2 (d x y : Fin n) (hE : y * y = x * x + 1 + d * (x * x) * (y * y)) : y * y + -x * x = 1 - d * -x * x * y * y := by grind
theorem ng3 (d x y : Fin n) (hE : y * y = x * x + 1 + d * (x * x) * (y * y)) : y * y = -x * -x + 1 + d * (-x * -x) * (y * y) := by grind
theorem df1 (d x1 y1 x2 y2 w ya : Fin n) (hv : (1 - d * -x1 * x2 * y1 * y2) * w = 1) (h : (y1 * y2 + -x1 * x2) * w = ya) : ya * (1 + d * x1 * x2 * y1 * y2) = y1 * y2 - x1 * x2 := by grind
theorem df2 (d x1 y1 x2 y2 ya : Fin n) (h : ya * (1 + d * x1 * x2 * y1 * y2) = y1 * y2 - x1 * x2) : ya * (1 + d * x2 * x1 * y2 * y1) = y2 * y1 - x2 * x1 := by grind
theorem au1 (s1 s2 y1 y2 : Fin n) : ((s2 * (1 + y2) - s2 * (1 - y2)) * (s1 * (1 + y1) + s1 * (1 - y1)) + (s2 * (1 + y2) + s2 * (1 - y2)) * (s1 * (1 + y1) - s1 * (1 - y1))) * ((s2 * (1 + y2) - s2 * (1 - y2)) * (s1 * (1 + y1) + s1 * (1 - y1)) + (s2 * (1 + y2) + s2 * (1 - y2)) * (s1 * (1 + y1) - s1 * (1 - y1))) = 8 * (s1 * s2 * (s1 * s2)) * (2 * ((y1 + y2) * (y1 + y2))) := by grind
theorem au2 (x s1 s2 y1 y2 : Fin n) : x * (((s2 * (1 + y2) - s2 * (1 - y2)) * (s1 * (1 + y1) + s1 * (1 - y1)) - (s2 * (1 + y2) + s2 * (1 - y2)) * (s1 * (1 + y1) - s1 * (1 - y1))) * ((s2 * (1 + y2) - s2 * (1 - y2)) * (s1 * (1 + y1) + s1 * (1 - y1)) - (s2 * (1 + y2) + s2 * (1 - y2)) * (s1 * (1 + y1) - s1 * (1 - y1)))) = 8 * (s1 * s2 * (s1 * s2)) * (2 * (x * ((y1 - y2) * (y1 - y2)))) := by grind
theorem kya (p1 p2 m1 m2 ya Y C E : Fin n) (h1 : ya * p1 = m1) (h2 : p2 * Y = m2) : p1 * p2 * ((1 - ya) * (1 - Y) * C - (1 + ya) * (1 + Y) * E) = (p1 - m1) * (p2 - m2) * C - (p1 + m1) * (p2 + m2) * E := by subst h1; subst h2; grind
theorem kyb (d x1 y1 x2 y2 : Fin n) : (1 + d * x1 * x2 * y1 * y2 - (y1 * y2 - x1 * x2)) * (1 - d * x1 * x2 * y1 * y2 - (y1 * y2 + x1 * x2)) = (1 - y1 * y2) * (1 - y1 * y2) - x1 * x2 * (x1 * x2) * ((1 + d * (y1 * y2)) * (1 + d * (y1 * y2))) := by grind
theorem kyc (d x1 y1 x2 y2 : Fin n) : (1 + d * x1 * x2 * y1 * y2 + (y1 * y2 - x1 * x2)) * (1 - d * x1 * x2 * y1 * y2 + (y1 * y2 + x1 * x2)) = (1 + y1 * y2) * (1 + y1 * y2) - x1 * x2 * (x1 * x2) * ((1 - d * (y1 * y2)) * (1 - d * (y1 * y2))) := by grind
theorem kyd (N v p Y : Fin n) (hv : p * v = 1) (hY : Y = N * v) : p * Y = N := by subst hY; grind
theorem kye (a b : Fin n) (h : a = b) : a - b = 0 := by subst h; grind
theorem ky1 (d x1 y1 x2 y2 ya Y v : Fin n) (hs : ((1 - y1 * y2) * (1 - y1 * y2) - x1 * x2 * (x1 * x2) * ((1 + d * (y1 * y2)) * (1 + d * (y1 * y2)))) * ((y1 + y2) * (y1 + y2)) = ((1 + y1 * y2) * (1 + y1 * y2) - x1 * x2 * (x1 * x2) * ((1 - d * (y1 * y2)) * (1 - d * (y1 * y2)))) * ((y1 - y2) * (y1 - y2)))
  (hm : ya * (1 + d * x1 * x2 * y1 * y2) = y1 * y2 - x1 * x2) (hv : (1 - d * x1 * x2 * y1 * y2) * v = 1) (hY : Y = (y1 * y2 + x1 * x2) * v) :
  (1 + d * x1 * x2 * y1 * y2) * (1 - d * x1 * x2 * y1 * y2) * ((1 - ya) * (1 - Y) * ((y1 + y2) * (y1 + y2)) - (1 + ya) * (1 + Y) * ((y1 - y2) * (y1 - y2))) = 0 := by
  rw [kya _ _ _ _ ya Y _ _ hm (kyd _ _ _ _ hv hY), kyb, kyc]
  exact kye _ _ hs
theorem ky2 (ya Y x C E : Fin n) (h : (1 - ya) * (1 - Y) * C - (1 + ya) * (1 + Y) * E = 0) (hx : x * (1 - ya) = 1 + ya) : (1 - ya) * ((1 - Y) * C - (1 + Y) * (x * E)) = 0 := by grind
theorem ky3 (Y C E : Fin n) (h : (1 - Y) * C - (1 + Y) * E = 0) : 2 * C = (C + E) * (1 + Y) ∧ 2 * E = (C + E) * (1 - Y) := by constructor <;> grind
theorem assoc_n (a b c : Fin n) : a * b * c = a * (b * c) := by grind
theorem zmul_n (a : Fin n) : 0 * a = 0 := by grind
theorem zz1 (y1 y2 : Fin n) (h1 : y1 + y2 = 0) (h2 : y1 - y2 = 0) : 2 * y1 = 0 := by grind
theorem zz3 (y : Fin n) (h : 0 + y = 0) : y = 0 := by grind
theorem zz2 (d x1 x2 ya : Fin n) (h1 : (0 : Fin n) * 0 = x1 * x1 + 1 + d * (x1 * x1) * (0 * 0)) (h2 : (0 : Fin n) * 0 = x2 * x2 + 1 + d * (x2 * x2) * (0 * 0)) (hm : ya * (1 + d * x1 * x2 * 0 * 0) = 0 * 0 - x1 * x2) : (1 - ya) * (1 + ya) = 0 := by grind
theorem ue1 (s y u : Fin n) (h : u * (1 - y) = 1 + y) : s * (1 + y) = u * (s * (1 - y)) := by grind
theorem ue2 (v a b : Fin n) (h : v * a = 1) : b * v * a = b := by grind
theorem ue3 (u v a : Fin n) (h : u * a = v * a) : (u - v) * a = 0 := by grind
theorem ue4 (u v : Fin n) (h : u - v = 0) : u = v := by grind
theorem ue5 (h : Fin n) (e : h * 2 = 1) : (1 : Fin n) = h * (1 + 1) ∧ (0 : Fin n) = h * (1 - 1) := by constructor <;> grind
theorem ue6 (x v y : Fin n) (hx : x * (1 - y) = 1 + y) (hv : (1 - y) * v = 1) : x = v * (1 + y) ∧ 1 = v * (1 - y) := by constructor <;> grind
theorem one0 (d x y : Fin n) (hE : y * y = x * x + 1 + d * (x * x) * (y * y)) (h : 1 - y = 0) : y = 1 ∧ x * x * (1 + d) = 0 := by
  have hy : y = 1 := by grind
  subst hy
  exact ⟨rfl, by grind⟩
theorem one1 (d x y : Fin n) (hE : y * y = x * x + 1 + d * (x * x) * (y * y)) (h : 1 + y = 0) : y = -1 ∧ x * x * (1 + d) = 0 := by
  have hy : y = -1 := by grind
  subst hy
  exact ⟨rfl, by grind⟩
theorem ue7 (t a b v : Fin n) : t * a * v * b = a * (t * b * v) := by grind
theorem mul_one_n (a : Fin n) : a * 1 = a := by grind
theorem mulz_n (a : Fin n) : a * 0 = 0 := by grind
theorem neg0 : -(0 : Fin n) = 0 := by grind
end
end Go.Proofs.Ytogebegdgfdijaa.Ed
namespace Go.Proofs.Ytogebegdgfdijaa.Ed
open Go.RowKit Lm Fp Cu Pri

def C0 : K := toK 121665
theorem c_d : (C0 + 1) * toK D0 = -C0 := by decide +kernel
theorem c_one : ¬ (1 + C0 * (1 - 0) = (0 : K)) := by decide +kernel
theorem eight_k : (8 : K) ≠ 0 := by decide +kernel
theorem two_k : (2 : K) ≠ 0 := by decide +kernel
theorem mne {a b : K} (ha : a ≠ 0) (hb : b ≠ 0) : a * b ≠ 0 := mul_ne fld ha hb
/-- (a : b) is the number of A. -/
def Uo (a b : K) (A : K × K) : Prop := ∃ s : K, s ≠ 0 ∧ a = s * (1 + A.2) ∧ b = s * (1 - A.2)
theorem u_dbl {a b : K} {A : K × K} (hA : on A) (h : Uo a b A) :
    Uo ((a + b) * (a + b) * ((a - b) * (a - b))) (((a + b) * (a + b) - (a - b) * (a - b)) * ((a + b) * (a + b) + C0 * ((a + b) * (a + b) - (a - b) * (a - b)))) (add A A) := by
  obtain ⟨s, hs, rfl, rfl⟩ := h
  obtain ⟨_, w2⟩ := whole fld hA hA
  have hv := inv_ok _ w2
  obtain ⟨x, y⟩ := A
  have hE : y * y = x * x + 1 + toK D0 * (x * x) * (y * y) := hA
  have hd := mon_dbl C0 (toK D0) x y hE c_d
  have hp := mden (toK D0) x y hE
  have hg : 1 + C0 * (1 - y * y) ≠ 0 := by
    intro h
    rw [h, zero_mul_k] at hd
    rw [hd] at h
    exact c_one h
  simp only at hv w2
  refine ⟨8 * (s * s * s * s) * (1 + C0 * (1 - y * y)) * (1 - toK D0 * x * x * y * y), mne (mne (mne eight_k (mne (mne (mne hs hs) hs) hs)) hg) w2, ?_, ?_⟩
  · exact du1 _ _ x y s _ hd hp hv
  · exact du2 C0 _ _ x y s _ rfl hp hv
def ng (A : K × K) : K × K := (-A.1, A.2)
theorem on_ng {A : K × K} (h : on A) : on (ng A) := ng3 (toK D0) A.1 A.2 h
theorem ng_add {A : K × K} (h : on A) : add (ng A) A = (0, 1) := by
  obtain ⟨_, w2⟩ := whole fld (on_ng h) h
  have hv := inv_ok _ w2
  obtain ⟨x, y⟩ := A
  have hE : y * y = x * x + 1 + toK D0 * (x * x) * (y * y) := h
  show (_, _) = ((0 : K), (1 : K))
  refine Prod.ext ?_ ?_
  · exact ng1 x y _
  · show (y * y + -x * x) * inv (1 - toK D0 * -x * x * y * y) = 1
    rw [ng2 (toK D0) x y hE]
    exact hv
theorem diff {A B : K × K} (hA : on A) (hB : on B) : B.2 * (1 + toK D0 * A.1 * (add A B).1 * A.2 * (add A B).2) = A.2 * (add A B).2 - A.1 * (add A B).1 := by
  have h1 : add (ng A) (add A B) = B := by
    show eadd (toK D0) inv (ng A) (eadd (toK D0) inv A B) = B
    rw [← add_assoc fld inv_ok (on_ng hA) hA hB]
    have : eadd (toK D0) inv (ng A) A = (0, 1) := ng_add hA
    rw [this, zero_add fld inv_ok]
  obtain ⟨_, w2⟩ := whole fld (on_ng hA) (on_add fld inv_ok hA hB)
  have hv := inv_ok _ w2
  have h2 := congrArg Prod.snd h1
  exact df1 _ _ _ _ _ _ _ hv h2
theorem sq0 {a : K} (h : a * a = 0) : a = 0 := (fld.int _ _ h).elim id id
/-- The differential addition: A and B, of which the difference's number is x. -/
theorem u_add {a b c d : K} {A B : K × K} {x ya : K} (hA : on A) (hB : on B) (h1 : Uo a b A) (h2 : Uo c d B) (hx : x * (1 - ya) = 1 + ya) (hn1 : 1 - ya ≠ 0) (hn2 : 1 + ya ≠ 0)
    (hm : ya * (1 + toK D0 * A.1 * B.1 * A.2 * B.2) = A.2 * B.2 - A.1 * B.1) :
    Uo (((c - d) * (a + b) + (c + d) * (a - b)) * ((c - d) * (a + b) + (c + d) * (a - b))) (x * (((c - d) * (a + b) - (c + d) * (a - b)) * ((c - d) * (a + b) - (c + d) * (a - b)))) (add A B) := by
  obtain ⟨s1, hs1, rfl, rfl⟩ := h1
  obtain ⟨s2, hs2, rfl, rfl⟩ := h2
  obtain ⟨w1, w2⟩ := whole fld hA hB
  have hv := inv_ok _ w2
  have hs := mon_sq (toK D0) A.1 A.2 B.1 B.2 hA hB
  have hY : (add A B).2 = (A.2 * B.2 + A.1 * B.1) * inv (1 - toK D0 * A.1 * B.1 * A.2 * B.2) := rfl
  have k1 := ky1 (toK D0) A.1 A.2 B.1 B.2 ya _ _ hs hm hv hY
  have k2 := (fld.int _ _ k1).resolve_left (mne w1 w2)
  have k3 := (fld.int _ _ (ky2 ya _ x _ _ k2 hx)).resolve_left hn1
  obtain ⟨k4, k5⟩ := ky3 _ _ _ k3
  refine ⟨8 * (s1 * s2 * (s1 * s2)) * ((A.2 + B.2) * (A.2 + B.2) + x * ((A.2 - B.2) * (A.2 - B.2))), mne (mne eight_k (mne (mne hs1 hs2) (mne hs1 hs2))) ?_, ?_, ?_⟩
  · intro h0
    rw [h0, zmul_n] at k4 k5
    have c1 := (fld.int _ _ k4).resolve_left two_k
    have c2 := (fld.int _ _ k5).resolve_left two_k
    have e1 := sq0 c1
    rcases fld.int _ _ c2 with e2 | e2
    · rw [e2, zmul_n] at hx
      exact hn2 hx.symm
    · have e3 := sq0 e2
      have e4 := (fld.int _ _ (zz1 _ _ e1 e3)).resolve_left two_k
      have e5 : B.2 = 0 := by
        rw [e4] at e1
        exact zz3 _ e1
      have hA' : A.2 * A.2 = A.1 * A.1 + 1 + toK D0 * (A.1 * A.1) * (A.2 * A.2) := hA
      have hB' : B.2 * B.2 = B.1 * B.1 + 1 + toK D0 * (B.1 * B.1) * (B.2 * B.2) := hB
      rw [e4] at hA' hm
      rw [e5] at hB' hm
      exact (fld.int _ _ (zz2 _ _ _ _ hA' hB' hm)).elim hn1 hn2
  · rw [au1, k4, assoc_n (8 * _)]
  · rw [au2, k5, assoc_n (8 * _)]
/-! ### The ladder -/
def Lad (A : K × K) (m : Nat) (s : La) : Prop := Uo (toK s.a) (toK s.b) (tm A m) ∧ Uo (toK s.c) (toK s.d) (tm A (m + 1))
theorem lad_step {A : K × K} {x m β : Nat} {s : La} (hA : on A) (hβ : β < 2) (hl : LtP s) (hx : toK x * (1 - A.2) = 1 + A.2) (hn1 : 1 - A.2 ≠ 0) (hn2 : 1 + A.2 ≠ 0) (h : Lad A m s) : Lad A (2 * m + β) ((lstep x (s.swap β)).swap β) := by
  obtain ⟨k1, k2, k3, k4⟩ := lstep_k x (s.swap β) (swap_lt hl β)
  obtain ⟨u1, u2⟩ := h
  have o1 := on_times fld inv_ok hA m
  have o2 := on_times fld inv_ok hA (m + 1)
  have df := diff o1 hA
  have df' := df2 _ _ _ _ _ _ df
  have hβ2 : β = 0 ∨ β = 1 := by omega
  have t1 : add (tm A m) (tm A (m + 1)) = tm A (2 * m + 1) := by
    rw [show 2 * m + 1 = m + (m + 1) by omega]
    exact (times_add fld inv_ok hA _ _).symm
  rcases hβ2 with rfl | rfl
  · have e1 : s.swap 0 = s := rfl
    have e2 : ∀ t : La, t.swap 0 = t := fun _ => rfl
    rw [e1] at k1 k2 k3 k4
    rw [e1, e2]
    refine ⟨?_, ?_⟩
    · rw [k1, k2, show 2 * m + 0 = m + m by omega, show tm A (m + m) = add (tm A m) (tm A m) from times_add fld inv_ok hA _ _]
      exact u_dbl o1 u1
    · rw [k3, k4, show 2 * m + 0 + 1 = 2 * m + 1 from rfl, ← t1]
      exact u_add o1 o2 u1 u2 hx hn1 hn2 df
  · have e1 : s.swap 1 = ⟨s.c, s.d, s.a, s.b⟩ := rfl
    have e2 : ∀ t : La, t.swap 1 = ⟨t.c, t.d, t.a, t.b⟩ := fun _ => rfl
    rw [e1] at k1 k2 k3 k4
    rw [e1, e2]
    simp only at k1 k2 k3 k4
    refine ⟨?_, ?_⟩
    · show Uo (toK (lstep x ⟨s.c, s.d, s.a, s.b⟩).c) (toK (lstep x ⟨s.c, s.d, s.a, s.b⟩).d) _
      rw [k3, k4, ← t1, show add (tm A m) (tm A (m + 1)) = add (tm A (m + 1)) (tm A m) from add_comm _ _]
      exact u_add o2 o1 u2 u1 hx hn1 hn2 df'
    · show Uo (toK (lstep x ⟨s.c, s.d, s.a, s.b⟩).a) (toK (lstep x ⟨s.c, s.d, s.a, s.b⟩).b) _
      rw [k1, k2, show 2 * m + 1 + 1 = (m + 1) + (m + 1) by omega, show tm A ((m + 1) + (m + 1)) = add (tm A (m + 1)) (tm A (m + 1)) from times_add fld inv_ok hA _ _]
      exact u_dbl o2 u2
theorem lad_zero {A : K × K} {x : Nat} (hx : toK x * (1 - A.2) = 1 + A.2) (hn1 : 1 - A.2 ≠ 0) : Lad A 0 ⟨1, 0, x, 1⟩ := by
  have hv := inv_ok _ hn1
  have hi : inv (1 - A.2) ≠ 0 := by
    intro e
    rw [e] at hv
    exact fld.one (by rw [← hv, mulz_n])
  have ha : tm A 1 = A := zero_add fld inv_ok A
  refine ⟨⟨toK ((P0 + 1) / 2), by decide +kernel, ?_⟩, ⟨inv (1 - A.2), hi, ?_⟩⟩
  · exact ue5 (toK ((P0 + 1) / 2)) (by decide +kernel)
  · show _ ∧ toK 1 = inv (1 - A.2) * (1 - (tm A 1).2)
    rw [show tm A (0 + 1) = A from ha]
    exact ue6 _ _ _ hx hv
theorem lad_go {A : K × K} {x k : Nat} (hA : on A) (hp : x < p) (hk : k < 2 ^ 255) (hx : toK x * (1 - A.2) = 1 + A.2) (hn1 : 1 - A.2 ≠ 0) (hn2 : 1 + A.2 ≠ 0) : ∀ n, n ≤ 255 → Lad A (k / 2 ^ (255 - n)) (lgo x k n)
  | 0, _ => by
    rw [Nat.sub_zero, Nat.div_eq_of_lt hk]
    exact lad_zero hx hn1
  | n + 1, hn => by
    have ih := lad_go hA hp hk hx hn1 hn2 n (by omega)
    have h1 : 255 - n = (254 - n) + 1 := by omega
    have h3 : k / 2 ^ (255 - n) = k / 2 ^ (254 - n) / 2 := by rw [h1, Nat.pow_succ, Nat.div_div_eq_div_mul]
    have h := lad_step hA (Nat.mod_lt (k / 2 ^ (254 - n)) (by decide : 0 < 2)) (lgo_lt x k hp n) hx hn1 hn2 ih
    rw [h3] at h
    rw [show 255 - (n + 1) = 254 - n by omega, show k / 2 ^ (254 - n) = 2 * (k / 2 ^ (254 - n) / 2) + k / 2 ^ (254 - n) % 2 by omega]
    have e : (2 * (k / 2 ^ (254 - n) / 2) + k / 2 ^ (254 - n) % 2) = k / 2 ^ (254 - n) := by omega
    rw [e] at h ⊢
    exact h
theorem clamp_lt (k : Nat) : clamp k < 2 ^ 255 := by
  unfold clamp
  have : k / 8 * 8 % 2 ^ 254 < 2 ^ 254 := Nat.mod_lt _ (by decide)
  omega
/-- What a ladder leads to. -/
theorem x_mul {A : K × K} {u : Nat} (hA : on A) (hu : u < p) (hx : toK u * (1 - A.2) = 1 + A.2) (hn1 : 1 - A.2 ≠ 0) (hn2 : 1 + A.2 ≠ 0) (k : Nat) (hk : 1 - (tm A (clamp k)).2 ≠ 0) :
    toK (x25519 k u) * (1 - (tm A (clamp k)).2) = 1 + (tm A (clamp k)).2 := by
  have hp : p < 2 ^ 255 := by decide +kernel
  have h := (lad_go hA hu (clamp_lt k) hx hn1 hn2 255 (Nat.le_refl _)).1
  rw [show 255 - 255 = 0 from rfl, Nat.pow_zero, Nat.div_one] at h
  unfold x25519
  rw [Nat.mod_eq_of_lt (Nat.lt_trans hu hp), Nat.mod_eq_of_lt hu]
  simp only
  generalize lgo u (clamp k) 255 = s at h ⊢
  generalize tm A (clamp k) = B at h hk ⊢
  obtain ⟨t, ht, ha, hb⟩ := h
  rw [to_fmul, toK_finv, ha, hb]
  have hv := inv_ok _ (mne ht hk)
  rw [show t * (1 + B.2) * inv (t * (1 - B.2)) * (1 - B.2) = (1 + B.2) * (t * (1 - B.2) * inv (t * (1 - B.2))) from ue7 _ _ _ _, hv, mul_one_n]
end Go.Proofs.Ytogebegdgfdijaa.Ed
namespace Go.Proofs.Ytogebegdgfdijaa.Ed
open Go.RowKit Lm Fp Cu Pri
set_option maxRecDepth 100000
theorem q1 : Pr 1224481 := trial (k := 1107) (by decide) (by decide) (by decide +kernel)
theorem q2 : Pr 531581 := trial (k := 730) (by decide) (by decide) (by decide +kernel)
theorem q3 : Pr 1257559732178653 := Test.prime (a := 2) (rs := [1224481, 531581]) ⟨by decide, by decide +kernel, by simpa using ⟨q1, q2⟩, by decide +kernel, by decide +kernel, by decide +kernel⟩ (by decide +kernel)
theorem q4 : Pr 4434155615661930479 := Test.prime (a := 2) (rs := [1257559732178653]) ⟨by decide, by decide +kernel, by simpa using q3, by decide +kernel, by decide +kernel, by decide +kernel⟩ (by decide +kernel)
theorem q5 : Pr 172054593956031949258510691 := Test.prime (a := 2) (rs := [4434155615661930479]) ⟨by decide, by decide +kernel, by simpa using q4, by decide +kernel, by decide +kernel, by decide +kernel⟩ (by decide +kernel)
theorem q6 : Pr 19757330305831588566944191468367130476339 := Test.prime (a := 2) (rs := [172054593956031949258510691]) ⟨by decide, by decide +kernel, by simpa using q5, by decide +kernel, by decide +kernel, by decide +kernel⟩ (by decide +kernel)
theorem q7 : Pr 276602624281642239937218680557139826668747 := Test.prime (a := 2) (rs := [19757330305831588566944191468367130476339]) ⟨by decide, by decide +kernel, by simpa using q6, by decide +kernel, by decide +kernel, by decide +kernel⟩ (by decide +kernel)
theorem prQ : Pr Sc.q := Test.prime (a := 2) (rs := [276602624281642239937218680557139826668747]) ⟨by decide +kernel, by decide +kernel, by simpa using q7, by decide +kernel, by decide +kernel, by decide +kernel⟩ (by decide +kernel)
theorem tm_gcd (a b : Nat) : tm B0 a = (0, 1) → tm B0 b = (0, 1) → tm B0 (Nat.gcd a b) = (0, 1) := by
  induction a, b using Nat.gcd.induction with
  | H0 n => intro _ h; rwa [Nat.gcd_zero_left]
  | H1 m n hm ih =>
    intro h1 h2
    rw [Nat.gcd_rec]
    refine ih ?_ h1
    rw [show tm B0 (n % m) = tm B0 n from times_mod fld inv_ok on_base h1 n]
    exact h2
theorem base_ne : B0 ≠ (0, 1) := by
  intro h
  exact absurd (congrArg Prod.snd h) (by decide +kernel)
theorem no_ord {m : Nat} (hm : ¬ Sc.q ∣ m) : tm B0 m ≠ (0, 1) := by
  intro h
  have h1 := tm_gcd Sc.q m base_q h
  have h2 : Nat.gcd Sc.q m = 1 := cop prQ hm
  rw [h2] at h1
  have h3 : tm B0 1 = B0 := zero_add fld inv_ok B0
  exact base_ne (h3.symm.trans h1)
theorem d_one : 1 + toK D0 ≠ 0 := by decide +kernel
theorem neg_k : ng ((0 : K), -1) = (0, -1) := by decide +kernel
theorem y_ne {m : Nat} (hm : ¬ Sc.q ∣ m) : 1 - (tm B0 m).2 ≠ 0 ∧ 1 + (tm B0 m).2 ≠ 0 := by
  have ho : on (tm B0 m) := on_times fld inv_ok on_base m
  have key : ∀ A : K × K, A.1 * A.1 * (1 + toK D0) = 0 → A.1 = 0 := fun A h => sq0 ((fld.int _ _ h).resolve_right d_one)
  constructor
  · intro h
    obtain ⟨h1, h2⟩ := one0 (toK D0) _ _ ho h
    exact no_ord hm (Prod.ext (key _ h2) h1)
  · intro h
    obtain ⟨h1, h2⟩ := one1 (toK D0) _ _ ho h
    have e : tm B0 m = (0, -1) := Prod.ext (key _ h2) h1
    have hn := ng_add ho
    rw [e, neg_k, ← e] at hn
    have h3 : tm B0 (m + m) = (0, 1) := (times_add fld inv_ok on_base m m).trans hn
    refine no_ord (m := m + m) ?_ h3
    intro hd
    rw [show m + m = 2 * m by omega] at hd
    rcases prQ.dvd_mul hd with h4 | h4
    · exact absurd (Nat.le_of_dvd (by decide) h4) (by decide +kernel)
    · exact hm h4
theorem clamp_q (k : Nat) : ¬ Sc.q ∣ clamp k := by
  intro h
  have h1 : clamp k = 8 * (clamp k / 8) := by
    have : (2 : Nat) ^ 254 = 8 * 2 ^ 251 := by decide
    have h2 : k / 8 * 8 % 2 ^ 254 % 8 = 0 := by
      rw [Nat.mod_mod_of_dvd _ (show 8 ∣ 2 ^ 254 from ⟨2 ^ 251, this⟩)]
      omega
    have h3 : clamp k % 8 = 0 := by unfold clamp; omega
    omega
  have h0 : 2 ^ 254 ≤ clamp k := by unfold clamp; omega
  have h4 := clamp_lt k
  have hq : 2 ^ 252 < Sc.q := by decide +kernel
  rw [h1] at h
  rcases prQ.dvd_mul h with h5 | h5
  · have := Nat.le_of_dvd (by decide) h5
    omega
  · have := Nat.le_of_dvd (by omega) h5
    omega
theorem prod_q (k l : Nat) : ¬ Sc.q ∣ clamp k * clamp l := fun h => (prQ.dvd_mul h).elim (clamp_q k) (clamp_q l)
theorem one_q : ¬ Sc.q ∣ 1 := fun h => absurd (Nat.le_of_dvd (by decide) h) (by decide +kernel)
theorem nine_b : toK 9 * (1 - B0.2) = 1 + B0.2 := by decide +kernel
theorem nine_ne : 1 - B0.2 ≠ 0 ∧ 1 + B0.2 ≠ 0 := by
  have h := y_ne one_q
  rwa [show tm B0 1 = B0 from zero_add fld inv_ok B0] at h
/-- A public number's. -/
theorem x_pub (k : Nat) : toK (x25519 k 9) * (1 - (tm B0 (clamp k)).2) = 1 + (tm B0 (clamp k)).2 :=
  x_mul on_base (by decide +kernel) nine_b nine_ne.1 nine_ne.2 k (y_ne (clamp_q k)).1
theorem x_both (k l : Nat) : toK (x25519 l (x25519 k 9)) * (1 - (tm B0 (clamp k * clamp l)).2) = 1 + (tm B0 (clamp k * clamp l)).2 := by
  have e : tm B0 (clamp k * clamp l) = tm (tm B0 (clamp k)) (clamp l) := times_mul fld inv_ok on_base _ _
  have h := (y_ne (prod_q k l)).1
  rw [e] at h ⊢
  exact x_mul (on_times fld inv_ok on_base _) (x25519_lt k 9) (x_pub k) (y_ne (clamp_q k)).1 (y_ne (clamp_q k)).2 l h
/-- What two share is the same, and is something. -/
theorem x_same (k l : Nat) : x25519 l (x25519 k 9) = x25519 k (x25519 l 9) := by
  have h1 := x_both k l
  have h2 := x_both l k
  rw [Nat.mul_comm (clamp l)] at h2
  refine toK_lt (x25519_lt _ _) (x25519_lt _ _) (ue4 _ _ ((fld.int _ _ (ue3 _ _ _ (h1.trans h2.symm))).resolve_right (y_ne (prod_q k l)).1))
theorem x_ne (k l : Nat) : x25519 l (x25519 k 9) ≠ 0 := by
  intro h
  have h1 := x_both k l
  rw [h, show toK 0 = 0 from rfl, zmul_n] at h1
  exact (y_ne (prod_q k l)).2 h1.symm
end Go.Proofs.Ytogebegdgfdijaa.Ed
