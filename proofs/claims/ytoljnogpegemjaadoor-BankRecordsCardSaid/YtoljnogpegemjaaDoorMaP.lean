/- HMAC with SHA-256, in plain words. No program here; no condition. -/
import Derived.Test.YtoljnogpegemjaaDoorSrcL
import Derived.Test.YtoljnogpegemjaaDoorHh
import Derived.Test.YtoljnogpegemjaaDoorByt
namespace Go.Proofs.YtoljnogpegemjaaDoor.Wr
open Go.RowKit

def padS (key : List Int) (b : Int) (i : Nat) : List Int := (List.range 64).map fun j => if j < i then bits .xor .u8 (key.getD j 0) b else key.getD j 0
def pad (key : List Int) (b : Int) : List Int := padS key b 64
def mac (key msg : List Int) : List Int := Ha.hash (pad key 92 ++ Ha.hash (pad key 54 ++ msg))
/-- The key that wraps. -/
def wkey (e z : List Int) : List Int := mac (mac e z) [119, 114, 97, 112, 1]
theorem padS_len (key : List Int) (b : Int) (i : Nat) : (padS key b i).length = 64 := by simp [padS]
theorem padS_zero (key : List Int) (b : Int) (h : key.length ≤ 64) : key ++ List.replicate (64 - key.length) 0 = padS key b 0 := by
  apply List.ext_getElem
  · simp [padS]; omega
  · intro i h1 h2
    simp only [padS, List.getElem_map, List.getElem_range, Nat.not_lt_zero, if_false]
    rw [List.getElem_append]
    split
    · rename_i h3
      simp [List.getD, List.getElem?_eq_getElem h3]
    · rename_i h3
      simp [List.getD, List.getElem?_eq_none (Nat.not_lt.1 h3)]
theorem padS_get (key : List Int) (b : Int) (i : Nat) (h : i < 64) : (padS key b i).getD i 0 = key.getD i 0 := by
  simp [padS, List.getD, h]
theorem padS_set (key : List Int) (b : Int) (i : Nat) (h : i < 64) : (padS key b i).set i (bits .xor .u8 (key.getD i 0) b) = padS key b (i + 1) := by
  apply List.ext_getElem?
  intro j
  rw [List.getElem?_set]
  by_cases hj : j < 64
  · simp only [padS, List.getElem?_map, List.getElem?_range hj, List.length_map, List.length_range, Option.map_some]
    by_cases e : i = j
    · subst e
      rw [if_pos rfl, if_pos h, if_pos (by omega)]
    · rw [if_neg e]
      by_cases h3 : j < i
      · rw [if_pos h3, if_pos (by omega)]
      · rw [if_neg h3, if_neg (by omega)]
  · rw [if_neg (by omega), List.getElem?_eq_none (by rw [padS_len]; omega), List.getElem?_eq_none (by rw [padS_len]; omega)]
theorem xor_byte (a b : Int) : 0 ≤ bits .xor .u8 a b ∧ bits .xor .u8 a b ≤ 255 := by
  show 0 ≤ IntKind.u8.wrap _ ∧ IntKind.u8.wrap _ ≤ 255
  rw [IntKind.wrap_u8]
  omega
theorem pad_bytes (key : List Int) (b : Int) : bytes (pad key b) := by
  intro x hx
  simp only [pad, padS, List.mem_map, List.mem_range] at hx
  obtain ⟨j, h, rfl⟩ := hx
  rw [if_pos h]
  exact xor_byte _ _
theorem hash_len (m : List Int) : (Ha.hash m).length = 32 := by simp [Ha.hash, Ha.digest]
theorem hash_bytes (m : List Int) : bytes (Ha.hash m) := by
  intro x hx
  simp only [Ha.hash, Ha.digest, List.mem_map, List.mem_range] at hx
  obtain ⟨i, _, rfl⟩ := hx
  omega
theorem mac_len (k m : List Int) : (mac k m).length = 32 := hash_len _
theorem mac_bytes (k m : List Int) : bytes (mac k m) := hash_bytes _
theorem wkey_len (e z : List Int) : (wkey e z).length = 32 := hash_len _
theorem wkey_bytes (e z : List Int) : bytes (wkey e z) := hash_bytes _
end Go.Proofs.YtoljnogpegemjaaDoor.Wr
