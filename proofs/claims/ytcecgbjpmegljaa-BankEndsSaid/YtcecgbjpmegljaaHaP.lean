/- The hash of sha in plain words: lists of numbers. No program here; no condition. -/
import Derived.Test.YtcecgbjpmegljaaBase
namespace Go.Proofs.Ytcecgbjpmegljaa.Ha
open Go.RowKit

def K : List Int := [1116352408, 1899447441, 3049323471, 3921009573, 961987163, 1508970993, 2453635748, 2870763221, 3624381080, 310598401, 607225278, 1426881987, 1925078388, 2162078206, 2614888103, 3248222580, 3835390401, 4022224774, 264347078, 604807628, 770255983, 1249150122, 1555081692, 1996064986, 2554220882, 2821834349, 2952996808, 3210313671, 3336571891, 3584528711, 113926993, 338241895, 666307205, 773529912, 1294757372, 1396182291, 1695183700, 1986661051, 2177026350, 2456956037, 2730485921, 2820302411, 3259730800, 3345764771, 3516065817, 3600352804, 4094571909, 275423344, 430227734, 506948616, 659060556, 883997877, 958139571, 1322822218, 1537002063, 1747873779, 1955562222, 2024104815, 2227730452, 2361852424, 2428436474, 2756734187, 3204031479, 3329325298]
def H0 : List Int := [1779033703, 3144134277, 1013904242, 2773480762, 1359893119, 2600822924, 528734635, 1541459225]
def rot (x n m : Int) : Int := bits .or .u32 (IntKind.u32.wrap (x * m)) (x / n)
def add (x y : Int) : Int := IntKind.u32.wrap (x + y)
def s0 (x : Int) : Int := bits .xor .u32 (bits .xor .u32 (rot x 128 33554432) (rot x 262144 16384)) (x / 8)
def s1 (x : Int) : Int := bits .xor .u32 (bits .xor .u32 (rot x 131072 32768) (rot x 524288 8192)) (x / 1024)
def e1 (x : Int) : Int := bits .xor .u32 (bits .xor .u32 (rot x 64 67108864) (rot x 2048 2097152)) (rot x 33554432 128)
def e0 (x : Int) : Int := bits .xor .u32 (bits .xor .u32 (rot x 4 1073741824) (rot x 8192 524288)) (rot x 4194304 1024)
def ch (e f g : Int) : Int := bits .xor .u32 (bits .and .u32 e f) (bits .and .u32 (bits .xor .u32 (if IntKind.u32.signed = true then -1 else IntKind.u32.max) e) g)
def maj (a b c : Int) : Int := bits .xor .u32 (bits .xor .u32 (bits .and .u32 a b) (bits .and .u32 a c)) (bits .and .u32 b c)
def tx (k w : Int) (v : List Int) : Int := add (add (add (add (v.getD 7 0) (e1 (v.getD 4 0))) (ch (v.getD 4 0) (v.getD 5 0) (v.getD 6 0))) k) w
def ty (v : List Int) : Int := add (e0 (v.getD 0 0)) (maj (v.getD 0 0) (v.getD 1 0) (v.getD 2 0))
def rnd (k w : Int) (v : List Int) : List Int := [add (tx k w v) (ty v), v.getD 0 0, v.getD 1 0, v.getD 2 0, add (v.getD 3 0) (tx k w v), v.getD 4 0, v.getD 5 0, v.getD 6 0]
def next (ws : List Int) (t : Nat) : Int := add (add (add (s1 (ws.getD (t - 2) 0)) (ws.getD (t - 7) 0)) (s0 (ws.getD (t - 15) 0))) (ws.getD (t - 16) 0)
/-- The first n bytes of a word, from place o on. -/
def part (b : List Int) (o : Nat) : Nat → Int
  | 0 => 0
  | n + 1 => bits .or .u32 (IntKind.u32.wrap (part b o n * 256)) (b.getD (o + n) 0)
/-- The words behind the first i bytes. -/
def pre (b : List Int) (i : Nat) : List Int := (List.range 64).map fun j => part b (4 * j) (min 4 (i - 4 * j))
def sched (b : List Int) (n : Nat) : List Int := (List.range n).foldl (fun ws j => ws.set (16 + j) (next ws (16 + j))) (pre b 64)
def rounds (ws h : List Int) (n : Nat) : List Int := (List.range n).foldl (fun v t => rnd (K.getD t 0) (ws.getD t 0) v) h
/-- The first n words of the state are summed up. -/
def sums (h v : List Int) (n : Nat) : List Int := h.mapIdx fun i x => if i < n then add x (v.getD i 0) else x
def comp (h b : List Int) : List Int := sums h (rounds (sched b 48) h 64) 8

theorem pre_len (b : List Int) (i : Nat) : (pre b i).length = 64 := by simp [pre]
theorem pre_zero (b : List Int) : pre b 0 = List.replicate 64 0 := by
  unfold pre
  apply List.ext_getElem
  · simp
  · intro i h1 h2
    rw [List.getElem_replicate, List.getElem_map, Nat.zero_sub, Nat.min_zero]
    rfl
theorem pre_get (b : List Int) (i j : Nat) (hj : j < 64) : (pre b i).getD j 0 = part b (4 * j) (min 4 (i - 4 * j)) := by simp [pre, List.getD, hj]
theorem pre_succ (b : List Int) (i : Nat) (hi : i < 64) : pre b (i + 1) = (pre b i).set (i / 4) (bits .or .u32 (IntKind.u32.wrap ((pre b i).getD (i / 4) 0 * 256)) (b.getD i 0)) := by
  rw [pre_get _ _ _ (by omega)]
  apply List.ext_getElem
  · simp [pre]
  · intro j h1 h2
    simp only [pre, List.length_map, List.length_range] at h1
    rw [List.getElem_set]
    simp only [pre, List.getElem_map, List.getElem_range]
    by_cases e : i / 4 = j
    · subst e
      rw [if_pos rfl, show min 4 (i + 1 - 4 * (i / 4)) = i % 4 + 1 by omega, show min 4 (i - 4 * (i / 4)) = i % 4 by omega, part, show 4 * (i / 4) + i % 4 = i by omega]
    · rw [if_neg e]
      congr 1
      omega
theorem sched_succ (b : List Int) (n : Nat) : sched b (n + 1) = (sched b n).set (16 + n) (next (sched b n) (16 + n)) := by simp [sched, List.range_succ, List.foldl_append]
theorem sched_len (b : List Int) (n : Nat) : (sched b n).length = 64 := by
  induction n with
  | zero => simp [sched, pre]
  | succ n ih => rw [sched_succ, List.length_set, ih]
theorem rounds_succ (ws h : List Int) (n : Nat) : rounds ws h (n + 1) = rnd (K.getD n 0) (ws.getD n 0) (rounds ws h n) := by simp [rounds, List.range_succ, List.foldl_append]
theorem rounds_len (ws h : List Int) (hh : h.length = 8) (n : Nat) : (rounds ws h n).length = 8 := by
  cases n with
  | zero => simpa [rounds] using hh
  | succ n => rw [rounds_succ]; rfl
theorem sums_zero (h v : List Int) : sums h v 0 = h := by
  unfold sums
  apply List.ext_getElem <;> simp
theorem sums_len (h v : List Int) (n : Nat) : (sums h v n).length = h.length := by simp [sums]
theorem sums_get (h v : List Int) (n i : Nat) (hi : i < h.length) (hn : n ≤ i) : (sums h v n).getD i 0 = h.getD i 0 := by
  simp [sums, List.getD, hi]
  omega
theorem sums_succ (h v : List Int) (n : Nat) (_hn : n < h.length) : sums h v (n + 1) = (sums h v n).set n (add (h.getD n 0) (v.getD n 0)) := by
  apply List.ext_getElem
  · simp [sums]
  · intro i h1 h2
    simp only [sums, List.length_mapIdx] at h1
    rw [List.getElem_set]
    simp only [sums, List.getElem_mapIdx]
    by_cases e : n = i
    · subst e
      rw [if_pos (by omega), if_pos rfl]
      simp [List.getD, h1]
    · rw [if_neg e]
      by_cases e2 : i < n
      · rw [if_pos (by omega), if_pos e2]
      · rw [if_neg (by omega), if_neg e2]
theorem comp_len (h b : List Int) : (comp h b).length = h.length := sums_len _ _ _
theorem K_len : K.length = 64 := by decide

/-- What is under way: the state, the bytes that wait, how many they are. -/
structure S where
  h : List Int
  b : List Int
  n : Nat
def S.take (s : S) (x : Int) : S := if s.n + 1 = 64 then ⟨comp s.h (s.b.set s.n x), s.b.set s.n x, 0⟩ else ⟨s.h, s.b.set s.n x, s.n + 1⟩
def S.all (s : S) (xs : List Int) : S := xs.foldl S.take s
def S.new : S := ⟨H0, List.replicate 64 0, 0⟩
/-- The bytes behind a message of n bytes: 128, noughts, its length in bits. -/
def tail (n : Nat) : List Int := 128 :: List.replicate ((2 * 64 - 8 - 1 - n % 64) % 64) 0 ++ List.replicate (8 - 8) 0 ++ (List.range 8).map fun i => ((8 * n / 2 ^ (8 * (7 - i)) % 256 : Nat) : Int)
def digest (h : List Int) : List Int := (List.range 32).map fun i => h.getD (i / 4) 0 / 2 ^ (8 * (3 - i % 4)) % 256
def hash (m : List Int) : List Int := digest ((S.new.all (m ++ tail m.length)).h)
theorem hash_len (m : List Int) : (hash m).length = 32 := by simp [hash, digest]

structure S.Ok (s : S) : Prop where
  h : s.h.length = 8
  b : s.b.length = 64
  n : s.n < 64
  by0 : ∀ x ∈ s.b, 0 ≤ x ∧ x ≤ 255
theorem S.Ok.take {s : S} (h : s.Ok) (x : Int) (hx : 0 ≤ x ∧ x ≤ 255) : (s.take x).Ok := by
  have hn := h.n
  have hb : ∀ y ∈ s.b.set s.n x, 0 ≤ y ∧ y ≤ 255 := by
    intro y hy
    rcases List.mem_or_eq_of_mem_set hy with h1 | rfl
    · exact h.by0 y h1
    · exact hx
  unfold S.take
  split
  · exact ⟨(comp_len _ _).trans h.h, by rw [List.length_set]; exact h.b, by show 0 < _; omega, hb⟩
  · exact ⟨h.h, by rw [List.length_set]; exact h.b, by show s.n + 1 < _; omega, hb⟩
theorem S.Ok.all {s : S} (h : s.Ok) : ∀ (xs : List Int), (∀ x ∈ xs, 0 ≤ x ∧ x ≤ 255) → (s.all xs).Ok := by
  intro xs
  induction xs generalizing s with
  | nil => intro _; exact h
  | cons x xs ih => intro hx; exact ih (h.take x (hx x (by simp))) fun y hy => hx y (by simp [hy])
theorem S.Ok.new : S.new.Ok := by
  refine ⟨rfl, by simp [S.new], by simp [S.new], ?_⟩
  intro x hx
  have := List.eq_of_mem_replicate hx
  omega
theorem S.take_n (s : S) (h : s.n < 64) (x : Int) : (s.take x).n = (s.n + 1) % 64 := by
  unfold S.take
  split
  · rename_i e; rw [e]
  · show s.n + 1 = _; omega
theorem S.all_n : ∀ (xs : List Int) (s : S), s.n < 64 → (s.all xs).n = (s.n + xs.length) % 64
  | [], s, h => by show s.n = _; simp; omega
  | x :: xs, s, h => by
    have h1 : (s.take x).n < 64 := by rw [S.take_n s h]; omega
    have := S.all_n xs (s.take x) h1
    show ((s.take x).all xs).n = _
    rw [this, S.take_n s h, List.length_cons]
    omega
theorem S.all_append (s : S) (xs ys : List Int) : s.all (xs ++ ys) = (s.all xs).all ys := by simp [S.all, List.foldl_append]
theorem S.all_snoc (s : S) (xs : List Int) (x : Int) : s.all (xs ++ [x]) = (s.all xs).take x := by simp [S.all, List.foldl_append]

set_option maxRecDepth 1000000 in
theorem abc : (hash [97, 98, 99]).take 8 = [186, 120, 22, 191, 143, 1, 207, 234] := by decide +kernel

end Go.Proofs.Ytcecgbjpmegljaa.Ha
