/- The curve in plain words: points, their multiples, their bytes. No program here; no condition. -/
import Derived.Test.YtanjhngehfbpbaaDoorFdP
namespace Go.Proofs.YtanjhngehfbpbaaDoor.Cu
open Go.RowKit Lm Fp

structure Pt where
  x : Nat
  y : Nat
  z : Nat
  t : Nat
def dd : Nat := 37095705934669439343138083508754565189542113879843219016388785533085940283555
def bx : Nat := 15112221349535400772501151409588531511454012693041857206046113283949847762202
def bY : Nat := 46316835694926478169428394003475163141307993866256225615783033603165251855960
def base : Pt := ⟨bx, bY, 1, fmul bx bY⟩
def nought : Pt := ⟨0, 1, 1, 0⟩
def eadd (P Q : Pt) : Pt :=
  let a := fmul (fsub P.y P.x) (fsub Q.y Q.x)
  let b := fmul (fadd P.y P.x) (fadd Q.y Q.x)
  let c := fmul (fmul P.t (fadd dd dd)) Q.t
  let z := fmul P.z (fadd Q.z Q.z)
  ⟨fmul (fsub b a) (fsub z c), fmul (fadd z c) (fadd b a), fmul (fsub z c) (fadd z c), fmul (fsub b a) (fadd b a)⟩
/-- By the highest n of 256 bits. -/
def emul (P : Pt) (k : Nat) : Nat → Pt
  | 0 => nought
  | n + 1 => if k / 2 ^ (255 - n) % 2 = 1 then eadd (eadd (emul P k n) (emul P k n)) P else eadd (emul P k n) (emul P k n)
/-- The number that a point's bytes are. -/
def ebytes (P : Pt) : Nat := fmul P.y (finv P.z) + 2 ^ 255 * (fmul P.x (finv P.z) % 2)
def eread (v : Nat) : Option Pt :=
  let y := v % 2 ^ 255
  if y < p then
    let r := fsqrt (fmul (fsub (fmul y y) 1) (finv (fadd (fmul dd (fmul y y)) 1)))
    if r.2 = true ∧ (v / 2 ^ 255 = 1 → r.1 ≠ 0) then
      let x := if v / 2 ^ 255 = 1 then fsub 0 r.1 else r.1
      some ⟨x, y, 1, fmul x y⟩
    else none
  else none
def clamp (k : Nat) : Nat := k / 8 * 8 % 2 ^ 254 + 2 ^ 254

structure Pt.Ok (P : Pt) : Prop where
  x : P.x < p
  y : P.y < p
  z : P.z < p
  t : P.t < p
theorem eadd_ok (P Q : Pt) : (eadd P Q).Ok := ⟨fmul_lt _ _, fmul_lt _ _, fmul_lt _ _, fmul_lt _ _⟩
theorem one_lt : 1 < p := by decide +kernel
theorem nought_ok : nought.Ok := ⟨p_pos, one_lt, one_lt, p_pos⟩
theorem base_ok : base.Ok := ⟨by decide +kernel, by decide +kernel, one_lt, fmul_lt _ _⟩
theorem emul_ok (P : Pt) (k : Nat) : ∀ n, (emul P k n).Ok
  | 0 => nought_ok
  | n + 1 => by
    unfold emul
    split
    · exact eadd_ok _ _
    · exact eadd_ok _ _
theorem ebytes_lt (P : Pt) : ebytes P < 256 ^ 32 := by
  have h1 := fmul_lt P.y (finv P.z)
  have h2 : fmul P.x (finv P.z) % 2 < 2 := Nat.mod_lt _ (by decide)
  have h3 := p_eq
  have h4 : (256 : Nat) ^ 32 = 2 ^ 255 + 2 ^ 255 := by decide +kernel
  unfold ebytes
  rw [h4, ← h3]
  rcases (show fmul P.x (finv P.z) % 2 = 0 ∨ fmul P.x (finv P.z) % 2 = 1 by omega) with h | h <;> rw [h] <;> omega
theorem eread_ok (v : Nat) (P : Pt) (h : eread v = some P) : P.Ok := by
  unfold eread at h
  simp only at h
  split at h
  · rename_i hy
    split at h
    · cases h
      refine ⟨?_, hy, one_lt, fmul_lt _ _⟩
      show (if _ then _ else _) < p
      split
      · exact fsub_lt _ _
      · exact fsqrt_lt _
    · cases h
  · cases h
theorem b_ok : ebytes base = 46316835694926478169428394003475163141307993866256225615783033603165251855960 := by decide +kernel
theorem b_read : (eread 46316835694926478169428394003475163141307993866256225615783033603165251855960).map (fun P => (P.x, P.y)) = some (bx, bY) := by decide +kernel

/-! ### The ladder -/
structure La where
  a : Nat
  b : Nat
  c : Nat
  d : Nat
def lstep (x : Nat) (s : La) : La :=
  let pp := fmul (fadd s.a s.b) (fadd s.a s.b)
  let mm := fmul (fsub s.a s.b) (fsub s.a s.b)
  let e := fsub pp mm
  let da := fmul (fsub s.c s.d) (fadd s.a s.b)
  let cb := fmul (fadd s.c s.d) (fsub s.a s.b)
  ⟨fmul pp mm, fmul e (fadd pp (fmul 121665 e)), fmul (fadd da cb) (fadd da cb), fmul x (fmul (fsub da cb) (fsub da cb))⟩
def La.swap (s : La) (b : Nat) : La := if b = 1 then ⟨s.c, s.d, s.a, s.b⟩ else s
/-- By the highest n of 255 bits. -/
def lgo (x k : Nat) : Nat → La
  | 0 => ⟨1, 0, x, 1⟩
  | n + 1 => (lstep x ((lgo x k n).swap (k / 2 ^ (254 - n) % 2))).swap (k / 2 ^ (254 - n) % 2)
def x25519 (k u : Nat) : Nat :=
  let s := lgo (u % 2 ^ 255 % p) (clamp k) 255
  fmul s.a (finv s.b)
theorem x25519_lt (k u : Nat) : x25519 k u < p := fmul_lt _ _
theorem x_nine : x25519 (8 + 256 * 7) 9 = x25519 (8 + 256 * 7) 9 := rfl
end Go.Proofs.YtanjhngehfbpbaaDoor.Cu
