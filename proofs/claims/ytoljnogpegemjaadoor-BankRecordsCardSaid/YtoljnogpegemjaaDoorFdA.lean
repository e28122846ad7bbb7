/- field.prime, Lessen, fold, Plus, Minus: what they answer. Condition: numbers below 2^256; for Minus below p. -/
import Derived.Test.YtoljnogpegemjaaDoorLL
import Derived.Test.YtoljnogpegemjaaDoorL1
import Derived.Test.YtoljnogpegemjaaDoorFdP
namespace Go.Proofs.YtoljnogpegemjaaDoor.Fp
open Go.RowKit Lm

theorem zero_lim (w : World) : (zeroValue 241).run Tryd.prog w = .ok (.agg (arr .u64 (List.replicate 4 0))) w := by kernel_rfl
theorem size_lim : (Tryd.prog.info? 241).map (·.size) = some 4 := by kernel_rfl
theorem lim_s {xs : List Int} (h : xs.length = 4) : (Tryd.prog.info? 241).map (·.size) = some (arr .u64 xs).size := by rw [arr_size, h]; exact size_lim
theorem lim_i {xs : List Int} (h : xs.length = 4) : (Tryd.prog.info? 241).map (·.size) = some xs.length := by rw [h]; exact size_lim
/-- The limbs xs are the number a. -/
def N4 (xs : List Int) (a : Nat) : Prop := xs = nar (dig 18446744073709551616 4 a) ∧ a < 18446744073709551616 ^ 4
theorem N4.len {xs : List Int} {a : Nat} (h : N4 xs a) : xs.length = 4 := by rw [h.1, nar_len, dig_len]
theorem N4.cast {xs : List Int} {a b : Nat} (h : N4 xs a) (e : a = b) : N4 xs b := e ▸ h
theorem N4.inj {xs ys : List Int} {a b : Nat} (hx : N4 xs a) (hy : N4 ys b) : (xs == ys) = decide (a = b) := by
  obtain ⟨rfl, h1⟩ := hx
  obtain ⟨rfl, h2⟩ := hy
  by_cases e : a = b
  · subst e; simp
  · rw [decide_eq_false e, beq_eq_false_iff_ne]
    intro h
    have h3 : dig 18446744073709551616 4 a = dig 18446744073709551616 4 b := by
      have := congrArg (List.map Int.toNat) h
      have e : ∀ l : List Nat, (nar l).map Int.toNat = l := fun l => by rw [nar, List.map_map]; exact List.map_id l
      rwa [e, e] at this
    have h4 := congrArg (val 18446744073709551616) h3
    rw [val_dig, val_dig, Nat.mod_eq_of_lt h1, Nat.mod_eq_of_lt h2] at h4
    exact e h4
theorem vd (a : Nat) (h : a < 18446744073709551616 ^ 4) : val 18446744073709551616 (dig 18446744073709551616 4 a) = a := by rw [val_dig, Nat.mod_eq_of_lt h]
theorem n4_of (a : Nat) (h : a < 18446744073709551616 ^ 4) : N4 (nar (dig 18446744073709551616 4 a)) a := ⟨rfl, h⟩
theorem T_pos : 0 < 18446744073709551616 ^ 4 := by decide
/-- What is borrowed. -/
def brw (a b : Nat) : Nat := if a < b then 1 else 0
theorem brw_yes {a b : Nat} (h : a < b) : brw a b = 1 := if_pos h
theorem brw_no {a b : Nat} (h : ¬ a < b) : brw a b = 0 := if_neg h
/-- What is carried. -/
def cry (a b : Nat) : Nat := (a + b) / 18446744073709551616 ^ 4
theorem ladd4 {xs ys : List Int} (a b : Nat) (w : World) (hx : N4 xs a) (hy : N4 ys b) :
    Calls Tryd.prog 200 #[.agg (arr .u64 xs), .agg (arr .u64 ys)] w fun e w' => ∃ zs, e = .returned (.tuple #[.agg (arr .u64 zs), .int .u64 ((cry a b : Nat) : Int)]) ∧ N4 zs ((a + b) % 18446744073709551616 ^ 4) ∧ Below w.heap.size w w' := by
  obtain ⟨rfl, h1⟩ := hx
  obtain ⟨rfl, h2⟩ := hy
  refine (ladd_any _ _ w (dig_len _ _ _) (dig_len _ _ _) (dig_lt _ (by decide) _ _) (dig_lt _ (by decide) _ _)).mono ?_
  rintro e w' ⟨rfl, hb⟩
  rw [vd a h1, vd b h2]
  exact ⟨_, rfl, n4_of _ (Nat.mod_lt _ T_pos), hb⟩
theorem lsub4 {xs ys : List Int} (a b : Nat) (w : World) (hx : N4 xs a) (hy : N4 ys b) :
    Calls Tryd.prog 197 #[.agg (arr .u64 xs), .agg (arr .u64 ys)] w fun e w' => ∃ zs, e = .returned (.tuple #[.agg (arr .u64 zs), .int .u64 ((brw a b : Nat) : Int)]) ∧ N4 zs ((a + 18446744073709551616 ^ 4 - b) % 18446744073709551616 ^ 4) ∧ Below w.heap.size w w' := by
  obtain ⟨rfl, h1⟩ := hx
  obtain ⟨rfl, h2⟩ := hy
  refine (lsub_any _ _ w (dig_len _ _ _) (dig_len _ _ _) (dig_lt _ (by decide) _ _) (dig_lt _ (by decide) _ _)).mono ?_
  rintro e w' ⟨rfl, hb⟩
  rw [vd a h1, vd b h2]
  exact ⟨_, rfl, n4_of _ (Nat.mod_lt _ T_pos), hb⟩

end Go.Proofs.YtoljnogpegemjaaDoor.Fp
