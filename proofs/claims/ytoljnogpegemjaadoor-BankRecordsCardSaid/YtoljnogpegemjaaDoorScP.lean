/- Reckoning modulo the order of the base point, in plain words. No program here; no condition. -/
import Derived.Test.YtoljnogpegemjaaDoorLL
namespace Go.Proofs.YtoljnogpegemjaaDoor.Sc
open Go.RowKit Lm

def q : Nat := 7237005577332262213973186563042994240857116359379907606001950938285454250989
theorem q_lt : 2 * q + 2 < 18446744073709551616 ^ 4 := by decide +kernel
theorem q_lt32 : q < 256 ^ 32 := by decide +kernel
theorem q_pos : 0 < q := by decide +kernel
/-- What is read of V but for its lowest i bits, modulo q. -/
def upq (V i : Nat) : Nat := V / 2 ^ i % q
theorem upq_lt (V i : Nat) : upq V i < q := Nat.mod_lt _ q_pos
theorem upq_zero (V : Nat) : upq V 0 = V % q := by simp [upq]
theorem upq_top (V i : Nat) (h : V < 2 ^ i) : upq V i = 0 := by rw [upq, Nat.div_eq_of_lt h]; rfl
theorem bit_step (V i : Nat) : V / 2 ^ i = 2 * (V / 2 ^ (i + 1)) + V / 2 ^ i % 2 := by
  rw [Nat.pow_succ, ← Nat.div_div_eq_div_mul]
  omega
theorem upq_step (V i n : Nat) (hn : n = 2 * upq V (i + 1) + V / 2 ^ i % 2) : (if n < q then n else n - q) = upq V i := by
  have h1 := upq_lt V (i + 1)
  have h2 : V / 2 ^ i % 2 < 2 := Nat.mod_lt _ (by decide)
  have e : upq V i = n % q := by
    rw [upq, bit_step V i, hn, upq]
    rw [Nat.add_mod, Nat.mul_mod, ← Nat.mul_mod_mod, ← Nat.mul_mod, ← Nat.add_mod]
  rw [e]
  split
  · rename_i h; rw [Nat.mod_eq_of_lt h]
  · rename_i h
    rw [Nat.mod_eq_sub_mod (by omega), Nat.mod_eq_of_lt (by omega)]
end Go.Proofs.YtoljnogpegemjaaDoor.Sc
