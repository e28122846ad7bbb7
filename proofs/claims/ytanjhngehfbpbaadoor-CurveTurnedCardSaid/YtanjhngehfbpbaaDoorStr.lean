/- Strings as bytes: what a string's bytes are, appended, converted; structures of four equal arrays; a store into a part, in a region that draws. No condition. -/
import Derived.Test.YtanjhngehfbpbaaDoorMa
import Derived.Lib.AppendStr
import Derived.Lib.ConvBytes
namespace Go.Proofs.YtanjhngehfbpbaaDoor
open Go.RowKit

/-- A part of a structure of integers of one kind, laid behind what is laid. -/
theorem fill_part (place : Nat → Option (Nat × Nat)) (k : IntKind) (X Y a : List Int) (i off : Nat) (rest : List (Nat × Value)) (ho : off = X.length) (hp : place i = some (off, a.length)) (hY : a.length ≤ Y.length) :
    Instr.fill place (arr k (X ++ Y)) ((i, .agg (arr k a)) :: rest) = Instr.fill place (arr k (X ++ a ++ Y.drop a.length)) rest := by
  subst ho
  have s : (Value.agg (arr k a)).cells.size = a.length := by simp [Value.cells, arr_size]
  rw [fill_cons _ _ _ _ _ X.length (by rw [s]; exact hp) (by rw [s, arr_size, List.length_append]; omega)]
  congr 1
  simp only [Value.cells, arr, List.size_toArray, List.length_map, List.map_append]
  congr 1
  have e1 : List.take X.length (X.map (Value.int k) ++ Y.map (Value.int k)) = X.map (Value.int k) := List.take_left' (by simp)
  have e2 : List.drop (X.length + a.length) (X.map (Value.int k) ++ Y.map (Value.int k)) = (Y.drop a.length).map (Value.int k) := by
    rw [List.drop_append, List.drop_eq_nil_of_le (by simp), List.length_map, Nat.add_sub_cancel_left, List.nil_append, List.map_drop]
  rw [e1, e2]
/-- A structure of four arrays of n cells each. -/
theorem fill4 (k : IntKind) (n : Nat) (a b c d z : List Int) (ha : a.length = n) (hb : b.length = n) (hc : c.length = n) (hd : d.length = n) (hz : z.length = 4 * n) :
    Instr.fill (fun x => #[((0 : Nat), n), (n, n), (2 * n, n), (3 * n, n)][x]?) (arr k z)
      [(0, .agg (arr k a)), (1, .agg (arr k b)), (2, .agg (arr k c)), (3, .agg (arr k d))] = some (arr k (a ++ b ++ c ++ d)) := by
  have h0 := fill_part (fun x => #[((0 : Nat), n), (n, n), (2 * n, n), (3 * n, n)][x]?) k [] z a 0 0 [(1, .agg (arr k b)), (2, .agg (arr k c)), (3, .agg (arr k d))] rfl (by rw [ha]; rfl) (by omega)
  have h1 := fill_part (fun x => #[((0 : Nat), n), (n, n), (2 * n, n), (3 * n, n)][x]?) k a (z.drop n) b 1 n [(2, .agg (arr k c)), (3, .agg (arr k d))] ha.symm (by rw [hb]; rfl) (by rw [List.length_drop]; omega)
  have h2 := fill_part (fun x => #[((0 : Nat), n), (n, n), (2 * n, n), (3 * n, n)][x]?) k (a ++ b) ((z.drop n).drop n) c 2 (2 * n) [(3, .agg (arr k d))] (by rw [List.length_append]; omega) (by rw [hc]; rfl) (by rw [List.length_drop, List.length_drop]; omega)
  have h3 := fill_part (fun x => #[((0 : Nat), n), (n, n), (2 * n, n), (3 * n, n)][x]?) k (a ++ b ++ c) (((z.drop n).drop n).drop n) d 3 (3 * n) [] (by rw [List.length_append, List.length_append]; omega) (by rw [hd]; rfl) (by rw [List.length_drop, List.length_drop, List.length_drop]; omega)
  simp only [List.nil_append, ha] at h0
  rw [hb] at h1
  rw [hc] at h2
  rw [hd] at h3
  rw [h0, h1, h2, h3, Instr.fill]
  have e : (((z.drop n).drop n).drop n).drop n = [] := List.drop_eq_nil_of_le (by rw [List.length_drop, List.length_drop, List.length_drop]; omega)
  rw [e, List.append_nil]
end Go.Proofs.YtanjhngehfbpbaaDoor
