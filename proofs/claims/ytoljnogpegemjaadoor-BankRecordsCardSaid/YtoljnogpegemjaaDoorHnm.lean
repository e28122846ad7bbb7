/- Bytes and the number that they are. No program here; no condition. -/
import Derived.Test.YtoljnogpegemjaaDoorSrcL
import Derived.Test.YtoljnogpegemjaaDoorFdP
import Derived.Test.YtoljnogpegemjaaDoorScP
import Derived.Test.YtoljnogpegemjaaDoorByt
namespace Go.Proofs.YtoljnogpegemjaaDoor.Cu
open Go.RowKit Lm Fp Sc
/-- The number of bytes, the lowest first. -/
def hnum (xs : List Int) : Nat := val 256 (xs.map Int.toNat)
def n32 (a : Nat) : List Int := nar (dig 256 32 a)
theorem n32_len (a : Nat) : (n32 a).length = 32 := (nar_len _).trans (dig_len _ _ _)
theorem n32_bytes (a : Nat) : bytes (n32 a) := by
  intro x hx
  obtain ⟨y, hy, rfl⟩ := List.mem_map.1 hx
  have := dig_lt 256 (by decide) 32 a y hy
  refine ⟨Int.natCast_nonneg y, ?_⟩
  show (y : Int) ≤ 255
  omega
theorem toNat_nar (ns : List Nat) : (nar ns).map Int.toNat = ns := by rw [nar, List.map_map]; exact List.map_id ns
theorem nar_toNat {xs : List Int} (h : bytes xs) : nar (xs.map Int.toNat) = xs := nar_of xs (fun x hx => (h x hx).1)
theorem toNat_lt {xs : List Int} (h : bytes xs) : ∀ x ∈ xs.map Int.toNat, x < 256 := by
  intro x hx
  obtain ⟨y, hy, rfl⟩ := List.mem_map.1 hx
  have := h y hy
  omega
theorem dig_hnum {xs : List Int} (h : bytes xs) : nar (dig 256 xs.length (hnum xs)) = xs := by
  have h1 := dig_val 256 (by decide) (xs.map Int.toNat) (toNat_lt h)
  rw [List.length_map] at h1
  rw [hnum, h1, nar_toNat h]
theorem hnum_lt {xs : List Int} (h : bytes xs) : hnum xs < 256 ^ xs.length := by
  have := val_lt 256 (xs.map Int.toNat) (toNat_lt h)
  rwa [List.length_map] at this
theorem hnum_n32 {a : Nat} (h : a < 256 ^ 32) : hnum (n32 a) = a := by rw [hnum, n32, toNat_nar, val_dig, Nat.mod_eq_of_lt h]
theorem n32_hnum {xs : List Int} (h : bytes xs) (hl : xs.length = 32) : n32 (hnum xs) = xs := by rw [n32, ← hl]; exact dig_hnum h
theorem bytes_take {xs : List Int} (h : bytes xs) (n : Nat) : bytes (xs.take n) := fun x hx => h x (List.mem_of_mem_take hx)
theorem bytes_drop {xs : List Int} (h : bytes xs) (n : Nat) : bytes (xs.drop n) := fun x hx => h x (List.mem_of_mem_drop hx)
theorem bytes_app {xs ys : List Int} (h : bytes xs) (k : bytes ys) : bytes (xs ++ ys) := fun x hx => (List.mem_append.1 hx).elim (h x) (k x)
end Go.Proofs.YtoljnogpegemjaaDoor.Cu
