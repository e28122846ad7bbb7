/- 32 bytes and the number that they are; limbs of them. Condition: 32 bytes. -/
import Derived.Test.YtoljnogpegemjaaDoorFdA
import Derived.Test.YtoljnogpegemjaaDoorScP
import Derived.Test.YtoljnogpegemjaaDoorByt
namespace Go.Proofs.YtoljnogpegemjaaDoor.Sl
open Go.RowKit Lm Fp Sc
theorem zero_num (w : World) : (zeroValue 23).run Tryd.prog w = .ok (.agg (arr .u8 (List.replicate 32 0))) w := by kernel_rfl
theorem size_num : (Tryd.prog.info? 23).map (·.size) = some 32 := by kernel_rfl
theorem num_s {xs : List Int} (h : xs.length = 32) : (Tryd.prog.info? 23).map (·.size) = some (arr .u8 xs).size := by rw [arr_size, h]; exact size_num
theorem num_i {xs : List Int} (h : xs.length = 32) : (Tryd.prog.info? 23).map (·.size) = some xs.length := by rw [h]; exact size_num
/-- The bytes ks are the number a. -/
def K32 (ks : List Int) (a : Nat) : Prop := ks = nar (dig 256 32 a) ∧ a < 256 ^ 32
theorem K32.len {ks : List Int} {a : Nat} (h : K32 ks a) : ks.length = 32 := by rw [h.1, nar_len, dig_len]
theorem K32.cast {ks : List Int} {a b : Nat} (h : K32 ks a) (e : a = b) : K32 ks b := e ▸ h
theorem pow_same : 256 ^ 32 = 18446744073709551616 ^ 4 := by decide
theorem of4 {ks : List Int} (a : Nat) (w : World) (h : K32 ks a) : Calls Tryd.prog 199 #[.agg (arr .u8 ks)] w fun e w' => ∃ zs, e = .returned (.agg (arr .u64 zs)) ∧ N4 zs a ∧ Below w.heap.size w w' := by
  obtain ⟨rfl, h1⟩ := h
  refine (of_any _ w (dig_len _ _ _) (dig_lt _ (by decide) _ _)).mono ?_
  rintro e w' ⟨rfl, hb⟩
  rw [val_dig, Nat.mod_eq_of_lt h1]
  exact ⟨_, rfl, n4_of a (by rw [← pow_same]; exact h1), hb⟩
theorem num4 {xs : List Int} (a : Nat) (w : World) (h : N4 xs a) : Calls Tryd.prog 201 #[.agg (arr .u64 xs)] w fun e w' => ∃ zs, e = .returned (.agg (arr .u8 zs)) ∧ K32 zs a ∧ Below w.heap.size w w' := by
  obtain ⟨rfl, h1⟩ := h
  refine (num_any _ w (dig_len _ _ _) (dig_lt _ (by decide) _ _)).mono ?_
  rintro e w' ⟨rfl, hb⟩
  rw [vd a h1]
  exact ⟨_, rfl, ⟨rfl, by rw [pow_same]; exact h1⟩, hb⟩

end Go.Proofs.YtoljnogpegemjaaDoor.Sl
